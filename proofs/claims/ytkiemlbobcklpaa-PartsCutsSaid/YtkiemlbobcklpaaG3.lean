/- Lemmas for the statement: the walks of the functions that it reaches, and plain laws. -/
import Derived.Test.YtkiemlbobcklpaaG2
import Derived.Test.YtkiemlbobcklpaaG1
set_option linter.unusedVariables false
set_option linter.unusedSimpArgs false
set_option maxHeartbeats 8000000
set_option maxRecDepth 100000
namespace Go.Proofs.Ytkiemlbobcklpaa.A
open Go Go.RowKit Go.Proofs.YtkiemlbobcklpaaW.PrintWords Go.Proofs.YtkiemlbobcklpaaW.PrintLast Go.Proofs.YtkiemlbobcklpaaW.PrintMore
attribute [local go_sem] max2_int min2_int max_two min_two max_three min_three max_four min_four
open Go.Proofs.YtkiemlbobcklpaaW.PrintWords.Kd renaming R_alloc → zRa, R_drewN → zRn, R_drew → zRd, C_alloc → zCa, C_drewN → zCn, C_drew → zCd, R_mono → zRm, at_int → zAi, R_elder' → zRe, R_lower → zRl, R_new' → zRw, R_lt → zRt, R_below → zRb, R_base → zRz, R_reads' → zRr, R_slice → zRs
open Go.Proofs.YtkiemlbobcklpaaW.PrintWords renaming pw_below_drewN → zBn, below_alloc → zBa, below_drew1 → zBd, below_size → zBs, below_step → zBt, blk_drewN → zKn, blk_drew → zKd, blk_alloc → zKa, blk_below → zKb, blk_cell → zKc, blk_frozen → zKf
open List renaming setIfInBounds_toArray → zSa, set_cons_zero → zSb, set_cons_succ → zSc, length_drop → zLd, length_take → zLt, map_toArray → zMa, map_cons → zMc, map_nil → zMn, length_cons → zLc, length_nil → zLn
open Go.Proofs.YtkiemlbobcklpaaW.PrintWords.Aside0 renaming mk → zMk
open Option renaming bind_eq_some_iff → zBi, bind_some → zOb
open Option.some renaming inj → zOi
open Int renaming toNat_natCast → zTn
-- RUN
theorem WkW.box51 {w0 wn W : World} {gw g : Nat} {vn : Value} {V : WkV} {s : Wk} {cells : Array Value} (h : WkW w0 wn W gw vn V s) (hg : W.heap[g]? = some (.cells cells 51 (0, 0))) (hgb : w0.heap.size ≤ g) (hgn : wn.heap.size ≤ g) (j : Nat) (u : Value) : WkW w0 wn (W.setCell ⟨g, j, none⟩ u) gw vn V s := by
  have hne : gw ≠ g := by
    rintro rfl
    have h2 := h.hw
    rw [hg] at h2
    injection h2 with h2
    injection h2 with _ h2
    exact absurd h2 (by decide)
  exact { h with hK := h.hK.far hgn _ _, hBl := below_set h.hBl hgb, hw := blk_far h.hw hne _, h1 := Kd.R_set h.h1 hg (by decide) _ _, h2 := Kd.R_set h.h2 hg (by decide) _ _, h3 := Kd.R_set h.h3 hg (by decide) _ _, hE := Kd.R_set h.hE hg (by decide) _ _, h5 := Kd.R_set h.h5 hg (by decide) _ _, h6 := Kd.R_set h.h6 hg (by decide) _ _, hB := Kd.S_set h.hB hg (by decide) _ _, hS := Kd.R_set h.hS hg (by decide) _ _ }
theorem arc_far {W : World} {g ba : Nat} {cells cb : Array Value} {t : Nat} (hb : W.heap[ba]? = some (.cells cb 51 (0, 0))) (hg : W.heap[g]? = some (.cells cells t (0, 0))) (ht : t ≠ 51) (j : Nat) (u : Value) : (W.setCell ⟨g, j, none⟩ u).heap[ba]? = some (.cells cb 51 (0, 0)) := by
  refine blk_far (p:=⟨g, j, none⟩) hb ?_ u
  rintro rfl
  rw [hg] at hb
  injection hb with hb
  injection hb with _ hb
  exact ht hb
def wkFar (s : Wk) (v : Int) (a : S51) : Option Wk :=
  if 0 ≤ a.f0 ∧ a.f0 < (s.ord.length : Int) ∧ v < (s.low.length : Int) then
    (if rd s.ord a.f0 = 0 then wkEnter s a.f0 a.f1 else some { s with low := s.low.set v.toNat (if rd s.ord a.f0 < rd s.low v then rd s.ord a.f0 else rd s.low v) })
  else none
def wkArc (s : Wk) (v : Int) (a : S51) : Option Wk :=
  if 0 ≤ a.f1 ∧ a.f1 < (s.taken.length : Int) then
    (if rdOf false s.taken a.f1 = true then some s
     else if s.edges.length < 17592186044415 then wkFar { s with taken := s.taken.set a.f1.toNat true, edges := s.edges ++ [a.f1] } v a else none)
  else none
def wkLoop (leave : Wk → Option Wk) (near : List (List S51)) : Nat → Wk → Option Wk
  | 0, _ => none
  | k + 1, s =>
    if s.stack.length = 0 then some s
    else
      let v := (rd_T51 s.stack ((s.stack.length - 1 : Nat) : Int)).f0
      if 0 ≤ v ∧ v < (s.next.length : Int) ∧ v < (near.length : Int) then
        (if rd s.next v = ((rd_L3 near v).length : Int) then (leave s).bind (wkLoop leave near k)
         else if 0 ≤ rd s.next v ∧ rd s.next v < ((rd_L3 near v).length : Int) then
           (wkArc { s with next := s.next.set v.toNat (wrap64 (rd s.next v + 1)) } v (rd_T51 (rd_L3 near v) (rd s.next v))).bind (wkLoop leave near k)
         else none)
      else none
def wkRun (leave : Wk → Option Wk) (near : List (List S51)) (k : Nat) (s : Wk) (root : Int) : Option Wk := (wkEnter s root (-1)).bind (wkLoop leave near k)
theorem wkRun.calls (leave : Wk → Option Wk) (near : List (List S51)) (k : Nat) (w0 wn w : World) (gw : Nat) (An : Option Addr) (cn : Nat) (V : WkV) (s s' : Wk) (root : Int)
    (hleave : ∀ (W : World) (V : WkV) (s s' : Wk), WkW w0 wn W gw (.slice An near.length cn) V s → leave s = some s' → Calls Try.prog 63 #[.pointer (some ⟨gw, 0, none⟩)] W fun e W' => e = .returned (.tuple #[]) ∧ ∃ V', WkW w0 wn W' gw (.slice An near.length cn) V' s')
    (nb : Nat) (okn : Nat → Prop) (hn : Kd.S (Kd.slice 51 k51) 49 wn nb okn (.slice An near.length cn) near) (h : WkW w0 wn w gw (.slice An near.length cn) V s) (he : wkRun leave near k s root = some s') :
    Calls Try.prog 45 #[.pointer (some ⟨gw, 0, none⟩), .int .i64 root] w fun e w' => e = .returned (.tuple #[]) ∧ ∃ V', WkW w0 wn w' gw (.slice An near.length cn) V' s' := by
  have hu55 := Try.underlying55
  have hu89 := Try.underlying89
  have hu51 := Try.underlying51
  have HL := zMk hleave
  have HN := zMk hn
  have HW := zMk h
  unfold wkRun at he
  obtain ⟨s1, h1, he⟩ := Option.bind_eq_some_iff.1 he
  have H1 := zMk h1
  have HE := zMk he
  clear hleave hn h h1 he
  go_enter Try.func45, Try.ntmps45
  go_wp2_with (go_at_call 62; refine (wkEnter.calls w0 wn _ gw _ V s s1 root (-1) HW.out H1.out).mono ?_; rintro e w1 ⟨rfl, vS, h1⟩; have HW1 := zMk h1; clear h1)
  clear HW H1
  go_loopg [] k (fun kq w' => ∃ (V : WkV) (s : Wk), Aside0 (WkW w0 wn w' gw (.slice An near.length cn) V s) ∧ Aside0 (wkLoop leave near kq s = some s'))
  case atStart => exact ⟨_, s1, HW1, HE⟩
  case round =>
    clear HW1 HE
    obtain ⟨V, s, HW, HE⟩ := hrel
    rcases gk with _ | k1
    · exact absurd HE.out (by simp [wkLoop])
    have he := HE.out
    clear HE
    rw [wkLoop] at he
    by_cases h0 : s.stack.length = 0
    · rw [if_pos h0] at he
      obtain rfl := zOi he
      obtain ⟨AS, cS, eS⟩ := zRs HW.out.hS
      have z9 : wr.cell? ⟨gw, 9, none⟩ = some (.slice AS s.stack.length cS) := (zKc HW.out.hw 9).trans (congrArg some eS)
      rw [h0] at z9
      go_wp2
      first | go_end0 | ((try simp only [Exit.inBlock, Exit.then]); refine bodyPost_ret (results_none rfl _ _ _) rfl ?_)
      exact ⟨rfl, _, HW.out⟩
    · rw [if_neg h0] at he
      obtain ⟨j, hj⟩ : ∃ j, s.stack.length = j + 1 := ⟨s.stack.length - 1, by omega⟩
      rw [show s.stack.length - 1 = j by omega] at he
      dsimp only at he
      obtain ⟨gs, cS, eS, -, -, -⟩ := Kd.R_form HW.out.hS (by omega)
      rw [hj] at eS
      have ES := zMk eS
      have hs := HW.out.hS
      rw [eS] at hs
      have hlm := wk_len hs
      rw [hj] at hlm
      have hmx : maxLen ≤ 9223372036854775807 := by decide
      have HMX := zMk (show j + 1 ≤ 9223372036854775807 by omega)
      have hfx := at_T51 (by have hc := (zRr hs).2.2; rw [hj] at hc; exact hc) (j : Int) (by omega) (by omega)
      obtain ⟨ad, ea, hx0, hx1⟩ := hfx
      cases ea
      simp only [zTn] at hx0 hx1
      rw [wk_add] at hx0
      obtain ⟨v, hv⟩ : ∃ v, v = (rd_T51 s.stack (j : Int)).f0 := ⟨_, rfl⟩
      rw [← hv] at hx0 he
      have XV := zMk (show wr.cell? ⟨gs, j * 2, none⟩ = some (.int .i64 v) from hx0)
      by_cases hb : 0 ≤ v ∧ v < (s.next.length : Int) ∧ v < (near.length : Int)
      rotate_left
      · rw [if_neg hb] at he; cases he
      rw [if_pos hb] at he
      have HB := zMk hb
      have HE := zMk he
      have z9 : wr.cell? ⟨gw, 9, none⟩ = some (.slice (some ⟨gs, 0, none⟩) (j + 1) cS) := (zKc HW.out.hw 9).trans (congrArg some ES.out)
      have HJ := zMk hj
      clear hb he hv hx0 hx1 hs hlm hmx eS hj h0
      go_upto_region 2 with (fail)
      clear z9
      have p7 : (0 ≤ (j : Int)) = True := eq_true (by omega)
      have p8 : ((j : Int) < (j : Int) + 1) = True := eq_true (by omega)
      have hwj : IntKind.i64.wrap (j : Int) = (j : Int) := IntWalk.i64_in _ ⟨by omega, by have := HMX.out; omega⟩
      have hw64 : wrap64 (j : Int) = (j : Int) := by have := HMX.out; unfold wrap64; omega
      have BL := zMk (zBd (Below.refl wr.heap.size wr))
      have HW2 := zMk (HW.out.below BL.out)
      refine start_ (n:=14) (S:=fun w' => w'.cell? ⟨gw, 9, none⟩ = some (.slice (some ⟨gs, 0, none⟩) (j + 1) cS) ∧ w'.cell? ⟨gs, j * 2, none⟩ = some (.int .i64 v)) (ds:=[]) #[false,false,false,false,false,false,false,false,false,false,false,false,false,false] (by kernel_rfl) rfl rfl ⟨(zKc HW2.out.hw 9).trans (congrArg some ES.out), (Below.cell BL.out (World.block_lt_of_cell? wr _ XV.out)).trans XV.out⟩ (fun hHeld => ?_)
      generalize wr.drew = w2 at HW2 BL hHeld ⊢
      refine pure_ (i:=0) (N:=some 15) (v:=?_) (a' := ?_) #[true,false,false,false,false,false,false,false,false,false,false,false,false,false] rfl rfl (by kernel_rfl) (fun _ _ _ h => h) (Or.inl ⟨by rfl, ?_⟩) ?_ ?_
      rotate_left
      · intro w'
        go_simp
        with_reducible rfl
      rotate_left
      · simp only [Act.put, zSa, zSb, zSc, i64_w, i32_w]
        rfl
      refine pure_ (i:=1) (N:=some 16) (v:=?_) (a' := ?_) #[true,true,false,false,false,false,false,false,false,false,false,false,false,false] rfl rfl (by kernel_rfl) (fun _ _ _ h => h) (Or.inl ⟨by rfl, ?_⟩) ?_ ?_
      rotate_left
      · intro w'
        go_simp
        with_reducible rfl
      rotate_left
      · simp only [Act.put, zSa, zSb, zSc, i64_w, i32_w]
        rfl
      refine pure_ (i:=2) (N:=some 17) (v:=?_) (a' := ?_) #[true,true,true,false,false,false,false,false,false,false,false,false,false,false] rfl rfl (by kernel_rfl) (fun _ _ _ h => h) (Or.inl ⟨by rfl, ?_⟩) ?_ ?_
      rotate_left
      · intro w'
        go_simp
        with_reducible rfl
      rotate_left
      · simp only [Act.put, zSa, zSb, zSc, i64_w, i32_w]
        rfl
      refine pure_ (i:=4) (N:=some 19) (v:=?_) (a' := ?_) #[true,true,true,false,true,false,false,false,false,false,false,false,false,false] rfl rfl (by kernel_rfl) (fun _ _ _ h => h) (Or.inl ⟨by rfl, ?_⟩) ?_ ?_
      rotate_left
      · intro w'
        go_simp
        with_reducible rfl
      rotate_left
      · simp only [Act.put, zSa, zSb, zSc, i64_w, i32_w]
        rfl
      refine pure_ (i:=5) (N:=some 20) (v:=?_) (a' := ?_) #[true,true,true,false,true,true,false,false,false,false,false,false,false,false] rfl rfl (by kernel_rfl) (fun _ _ _ h => h) (Or.inl ⟨by rfl, ?_⟩) ?_ ?_
      rotate_left
      · intro w'
        go_simp
        with_reducible rfl
      rotate_left
      · simp only [Act.put, zSa, zSb, zSc, i64_w, i32_w]
        rfl
      refine pure_ (i:=6) (N:=some 21) (v:=?_) (a' := ?_) #[true,true,true,false,true,true,true,false,false,false,false,false,false,false] rfl rfl (by kernel_rfl) (fun _ _ _ h => h) (Or.inl ⟨by rfl, ?_⟩) ?_ ?_
      rotate_left
      · intro w'
        go_simp
        with_reducible rfl
      rotate_left
      · simp only [Act.put, zSa, zSb, zSc, i64_w, i32_w]
        rfl
      refine take_ (i:=3) (N:=some 18) (v:=?_) (a' := ?_) #[true,true,true,true,true,true,true,false,false,false,false,false,false,false] rfl rfl (by kernel_rfl) (fun _ _ _ h => h) (Or.inl ⟨by rfl, ?_⟩) hHeld ?_ ?_
      rotate_left
      · rintro w' ⟨s0, s1⟩
        go_simp
        with_reducible rfl
      rotate_left
      · simp only [Act.put, zSa, zSb, zSc, i64_w, i32_w]
        rfl
      refine take_ (i:=7) (N:=some 22) (v:=?_) (a' := ?_) #[true,true,true,true,true,true,true,true,false,false,false,false,false,false] rfl rfl (by kernel_rfl) (fun _ _ _ h => h) (Or.inl ⟨by rfl, ?_⟩) hHeld ?_ ?_
      rotate_left
      · rintro w' ⟨s0, s1⟩
        go_simp
        with_reducible rfl
      rotate_left
      · simp only [Act.put, zSa, zSb, zSc, i64_w, i32_w]
        rfl
      refine pure_ (i:=8) (N:=some 23) (v:=?_) (a' := ?_) #[true,true,true,true,true,true,true,true,true,false,false,false,false,false] rfl rfl (by kernel_rfl) (fun _ _ _ h => h) (Or.inl ⟨by rfl, ?_⟩) ?_ ?_
      rotate_left
      · intro w'
        go_simp
        with_reducible rfl
      rotate_left
      · simp only [Act.put, zSa, zSb, zSc, i64_w, i32_w]
        rfl
      refine pure_ (i:=9) (N:=some 24) (v:=?_) (a' := ?_) #[true,true,true,true,true,true,true,true,true,true,false,false,false,false] rfl rfl (by kernel_rfl) (fun _ _ _ h => h) (Or.inl ⟨by rfl, ?_⟩) ?_ ?_
      rotate_left
      · intro w'
        go_simp
        with_reducible rfl
      rotate_left
      · simp only [Act.put, zSa, zSb, zSc, i64_w, i32_w]
        rfl
      refine pure_ (i:=10) (N:=some 25) (v:=?_) (a' := ?_) #[true,true,true,true,true,true,true,true,true,true,true,false,false,false] rfl rfl (by kernel_rfl) (fun _ _ _ h => h) (Or.inl ⟨by rfl, ?_⟩) ?_ ?_
      rotate_left
      · intro w'
        go_simp
        with_reducible rfl
      rotate_left
      · simp only [Act.put, zSa, zSb, zSc, i64_w, i32_w]
        rfl
      refine pure_ (i:=11) (N:=some 26) (v:=?_) (a' := ?_) #[true,true,true,true,true,true,true,true,true,true,true,true,false,false] rfl rfl (by kernel_rfl) (fun _ _ _ h => h) (Or.inl ⟨by rfl, ?_⟩) ?_ ?_
      rotate_left
      · intro w'
        go_simp
        with_reducible rfl
      rotate_left
      · simp only [Act.put, zSa, zSb, zSc, i64_w, i32_w]
        rfl
      refine take_ (i:=12) (N:=some 27) (v:=?_) (a' := ?_) #[true,true,true,true,true,true,true,true,true,true,true,true,true,false] rfl rfl (by kernel_rfl) (fun _ _ _ h => h) (Or.inl ⟨by rfl, ?_⟩) hHeld ?_ ?_
      rotate_left
      · rintro w' ⟨s0, s1⟩
        go_simp
        with_reducible rfl
      rotate_left
      · simp only [Act.put, zSa, zSb, zSc, i64_w, i32_w]
        rfl
      refine pure_ (i:=13) (N:=some 4) (v:=?_) (a' := ?_) #[true,true,true,true,true,true,true,true,true,true,true,true,true,true] rfl rfl (by kernel_rfl) (fun _ _ _ h => h) (Or.inl ⟨by rfl, ?_⟩) ?_ ?_
      rotate_left
      · intro w'
        go_simp
        with_reducible rfl
      rotate_left
      · simp only [Act.put, zSa, zSb, zSc, i64_w, i32_w]
        rfl
      refine done_ (by kernel_rfl) ?_
      clear p7 p8 hwj hw64 XV BL HW
      obtain ⟨g3, c3, e3, -, -, -⟩ := Kd.R_form HW2.out.h3 (by have := HB.out; omega)
      have E3 := zMk e3
      clear e3
      go_upto_region 3 with (fail)
      have HW3 := zMk (HW2.out.below (zBd (Below.refl w2.heap.size w2)))
      have h3' := HW3.out.h3
      rw [E3.out] at h3'
      obtain ⟨hxn, -⟩ := Kd.R_celln (0 : Int) h3' v HB.out.1 HB.out.2.1
      have HXN := zMk (show w2.drew.cell? ⟨g3, v.toNat, none⟩ = some (.int .i64 (rd s.next v)) from hxn)
      obtain ⟨adn, Ai, ci, ea, hcl, -, hCi⟩ := at_L3 (HW3.out.near HN.out) v HB.out.1 HB.out.2.2
      cases ea
      have HCL := zMk hcl
      have he := HE.out
      clear HE
      generalize rd_L3 near v = L at HCL hCi he
      have HCI := zMk hCi
      have HE := zMk he
      have p1 : (0 ≤ v) = True := eq_true HB.out.1
      have p2 : (v < (s.next.length : Int)) = True := eq_true HB.out.2.1
      have p3 : (v < (near.length : Int)) = True := eq_true HB.out.2.2
      clear h3' hxn hcl hCi he
      refine start_ (n:=16) (S:=fun w' => w'.cell? ⟨gw, 3, none⟩ = some (.slice (some ⟨g3, 0, none⟩) s.next.length c3) ∧ w'.cell? ⟨g3, v.toNat, none⟩ = some (.int .i64 (rd s.next v)) ∧ w'.cell? ⟨gw, 0, none⟩ = some (.slice (some adn) near.length cn) ∧ w'.cell? (adn.add v.toNat) = some (.slice Ai L.length ci)) (ds:=[]) #[false,false,false,false,false,false,false,false,false,false,false,false,false,false,false,false] (by kernel_rfl) rfl rfl ⟨(zKc HW3.out.hw 3).trans (congrArg some E3.out), HXN.out, (zKc HW3.out.hw 0).trans rfl, HCL.out⟩ (fun hHeld => ?_)
      generalize w2.drew = w3 at HW3 HXN HCL HCI hHeld ⊢
      refine pure_ (i:=0) (N:=some 28) (v:=?_) (a' := ?_) #[true,false,false,false,false,false,false,false,false,false,false,false,false,false,false,false] rfl rfl (by kernel_rfl) (fun _ _ _ h => h) (Or.inl ⟨by rfl, ?_⟩) ?_ ?_
      rotate_left
      · intro w'
        go_simp
        with_reducible rfl
      rotate_left
      · simp only [Act.put, zSa, zSb, zSc, i64_w, i32_w]
        rfl
      refine pure_ (i:=1) (N:=some 29) (v:=?_) (a' := ?_) #[true,true,false,false,false,false,false,false,false,false,false,false,false,false,false,false] rfl rfl (by kernel_rfl) (fun _ _ _ h => h) (Or.inl ⟨by rfl, ?_⟩) ?_ ?_
      rotate_left
      · intro w'
        go_simp
        with_reducible rfl
      rotate_left
      · simp only [Act.put, zSa, zSb, zSc, i64_w, i32_w]
        rfl
      refine pure_ (i:=2) (N:=some 30) (v:=?_) (a' := ?_) #[true,true,true,false,false,false,false,false,false,false,false,false,false,false,false,false] rfl rfl (by kernel_rfl) (fun _ _ _ h => h) (Or.inl ⟨by rfl, ?_⟩) ?_ ?_
      rotate_left
      · intro w'
        go_simp
        with_reducible rfl
      rotate_left
      · simp only [Act.put, zSa, zSb, zSc, i64_w, i32_w]
        rfl
      refine pure_ (i:=4) (N:=some 32) (v:=?_) (a' := ?_) #[true,true,true,false,true,false,false,false,false,false,false,false,false,false,false,false] rfl rfl (by kernel_rfl) (fun _ _ _ h => h) (Or.inl ⟨by rfl, ?_⟩) ?_ ?_
      rotate_left
      · intro w'
        go_simp
        with_reducible rfl
      rotate_left
      · simp only [Act.put, zSa, zSb, zSc, i64_w, i32_w]
        rfl
      refine pure_ (i:=7) (N:=some 35) (v:=?_) (a' := ?_) #[true,true,true,false,true,false,false,true,false,false,false,false,false,false,false,false] rfl rfl (by kernel_rfl) (fun _ _ _ h => h) (Or.inl ⟨by rfl, ?_⟩) ?_ ?_
      rotate_left
      · intro w'
        go_simp
        with_reducible rfl
      rotate_left
      · simp only [Act.put, zSa, zSb, zSc, i64_w, i32_w]
        rfl
      refine pure_ (i:=8) (N:=some 36) (v:=?_) (a' := ?_) #[true,true,true,false,true,false,false,true,true,false,false,false,false,false,false,false] rfl rfl (by kernel_rfl) (fun _ _ _ h => h) (Or.inl ⟨by rfl, ?_⟩) ?_ ?_
      rotate_left
      · intro w'
        go_simp
        with_reducible rfl
      rotate_left
      · simp only [Act.put, zSa, zSb, zSc, i64_w, i32_w]
        rfl
      refine pure_ (i:=9) (N:=some 37) (v:=?_) (a' := ?_) #[true,true,true,false,true,false,false,true,true,true,false,false,false,false,false,false] rfl rfl (by kernel_rfl) (fun _ _ _ h => h) (Or.inl ⟨by rfl, ?_⟩) ?_ ?_
      rotate_left
      · intro w'
        go_simp
        with_reducible rfl
      rotate_left
      · simp only [Act.put, zSa, zSb, zSc, i64_w, i32_w]
        rfl
      refine pure_ (i:=11) (N:=some 39) (v:=?_) (a' := ?_) #[true,true,true,false,true,false,false,true,true,true,false,true,false,false,false,false] rfl rfl (by kernel_rfl) (fun _ _ _ h => h) (Or.inl ⟨by rfl, ?_⟩) ?_ ?_
      rotate_left
      · intro w'
        go_simp
        with_reducible rfl
      rotate_left
      · simp only [Act.put, zSa, zSb, zSc, i64_w, i32_w]
        rfl
      refine take_ (i:=3) (N:=some 31) (v:=?_) (a' := ?_) #[true,true,true,true,true,false,false,true,true,true,false,true,false,false,false,false] rfl rfl (by kernel_rfl) (fun _ _ _ h => h) (Or.inl ⟨by rfl, ?_⟩) hHeld ?_ ?_
      rotate_left
      · rintro w' ⟨s0, s1, s2, s3⟩
        go_simp
        with_reducible rfl
      rotate_left
      · simp only [Act.put, zSa, zSb, zSc, i64_w, i32_w]
        rfl
      refine pure_ (i:=5) (N:=some 33) (v:=?_) (a' := ?_) #[true,true,true,true,true,true,false,true,true,true,false,true,false,false,false,false] rfl rfl (by kernel_rfl) (fun _ _ _ h => h) (Or.inl ⟨by rfl, ?_⟩) ?_ ?_
      rotate_left
      · intro w'
        go_simp
        with_reducible rfl
      rotate_left
      · simp only [Act.put, zSa, zSb, zSc, i64_w, i32_w]
        rfl
      refine take_ (i:=6) (N:=some 34) (v:=?_) (a' := ?_) #[true,true,true,true,true,true,true,true,true,true,false,true,false,false,false,false] rfl rfl (by kernel_rfl) (fun _ _ _ h => h) (Or.inl ⟨by rfl, ?_⟩) hHeld ?_ ?_
      rotate_left
      · rintro w' ⟨s0, s1, s2, s3⟩
        go_simp
        with_reducible rfl
      rotate_left
      · simp only [Act.put, zSa, zSb, zSc, i64_w, i32_w]
        rfl
      refine take_ (i:=10) (N:=some 38) (v:=?_) (a' := ?_) #[true,true,true,true,true,true,true,true,true,true,true,true,false,false,false,false] rfl rfl (by kernel_rfl) (fun _ _ _ h => h) (Or.inl ⟨by rfl, ?_⟩) hHeld ?_ ?_
      rotate_left
      · rintro w' ⟨s0, s1, s2, s3⟩
        go_simp
        with_reducible rfl
      rotate_left
      · simp only [Act.put, zSa, zSb, zSc, i64_w, i32_w]
        rfl
      refine pure_ (i:=12) (N:=some 40) (v:=?_) (a' := ?_) #[true,true,true,true,true,true,true,true,true,true,true,true,true,false,false,false] rfl rfl (by kernel_rfl) (fun _ _ _ h => h) (Or.inl ⟨by rfl, ?_⟩) ?_ ?_
      rotate_left
      · intro w'
        go_simp
        with_reducible rfl
      rotate_left
      · simp only [Act.put, zSa, zSb, zSc, i64_w, i32_w]
        rfl
      refine take_ (i:=13) (N:=some 41) (v:=?_) (a' := ?_) #[true,true,true,true,true,true,true,true,true,true,true,true,true,true,false,false] rfl rfl (by kernel_rfl) (fun _ _ _ h => h) (Or.inl ⟨by rfl, ?_⟩) hHeld ?_ ?_
      rotate_left
      · rintro w' ⟨s0, s1, s2, s3⟩
        go_simp
        with_reducible rfl
      rotate_left
      · simp only [Act.put, zSa, zSb, zSc, i64_w, i32_w]
        rfl
      refine pure_ (i:=14) (N:=some 42) (v:=?_) (a' := ?_) #[true,true,true,true,true,true,true,true,true,true,true,true,true,true,true,false] rfl rfl (by kernel_rfl) (fun _ _ _ h => h) (Or.inl ⟨by rfl, ?_⟩) ?_ ?_
      rotate_left
      · intro w'
        go_simp
        with_reducible rfl
      rotate_left
      · simp only [Act.put, zSa, zSb, zSc, i64_w, i32_w]
        rfl
      refine pure_ (i:=15) (N:=some 43) (v:=?_) (a' := ?_) #[true,true,true,true,true,true,true,true,true,true,true,true,true,true,true,true] rfl rfl (by kernel_rfl) (fun _ _ _ h => h) (Or.inl ⟨by rfl, ?_⟩) ?_ ?_
      rotate_left
      · intro w'
        go_simp
        with_reducible rfl
      rotate_left
      · simp only [Act.put, zSa, zSb, zSc, i64_w, i32_w]
        rfl
      refine done_ (by kernel_rfl) ?_
      clear HXN HW2
      have he := HE.out
      clear HE
      by_cases hnl : rd s.next v = (L.length : Int)
      · rw [if_pos hnl] at he
        obtain ⟨s2, h2, he⟩ := Option.bind_eq_some_iff.1 he
        have H2 := zMk h2
        have HE := zMk he
        have hd : (rd s.next v == (L.length : Int)) = true := beq_iff_eq.mpr hnl
        clear h2 he hnl
        go_upto_if 43 with (fail)
        first | rw [hd] | skip
        clear hd
        go_wp2_with (go_at_call 63; refine (HL.out _ _ _ _ HW3.out H2.out).mono ?_; rintro e w4 ⟨rfl, V4, h4⟩; have HW4 := zMk h4; clear h4)
        go_roundg k1
        case measure => omega
        case rel => exact ⟨V4, s2, HW4, HE⟩
      · rw [if_neg hnl] at he
        by_cases hnr : 0 ≤ rd s.next v ∧ rd s.next v < (L.length : Int)
        rotate_left
        · rw [if_neg hnr] at he; cases he
        rw [if_pos hnr] at he
        obtain ⟨s2, h2, he⟩ := Option.bind_eq_some_iff.1 he
        have hd : (rd s.next v == (L.length : Int)) = false := beq_eq_false_iff_ne.mpr hnl
        go_upto_if 43 with (fail)
        first | rw [hd] | skip
        obtain ⟨ad2, ea, hx0, hx1⟩ := at_T51 HCI.out (rd s.next v) hnr.1 hnr.2
        cases ea
        obtain ⟨a, ha⟩ : ∃ a, a = rd_T51 L (rd s.next v) := ⟨_, rfl⟩
        rw [← ha] at hx0 hx1 h2
        have X0 := zMk (hx0)
        have X1 := zMk (hx1)
        have H2 := zMk h2
        have HE := zMk he
        have HNR := zMk hnr
        have q1 : (0 ≤ rd s.next v) = True := eq_true hnr.1
        have q2 : (rd s.next v < (L.length : Int)) = True := eq_true hnr.2
        clear hd hx0 hx1 h2 he hnr hnl ha
        go_upto_region 5 with (fail)
        have BL := zMk (zBd (Below.refl w3.heap.size w3))
        have HW5 := zMk (HW3.out.below BL.out)
        have h3' := HW5.out.h3
        rw [E3.out] at h3'
        obtain ⟨hxn, -⟩ := Kd.R_celln (0 : Int) h3' v HB.out.1 HB.out.2.1
        have HXN := zMk (show w3.drew.cell? ⟨g3, v.toNat, none⟩ = some (.int .i64 (rd s.next v)) from hxn)
        replace HCL := zMk ((BL.out.cell (World.block_lt_of_cell? w3 _ HCL.out)).trans HCL.out)
        have XA := zMk ((BL.out.cell (World.block_lt_of_cell? w3 _ X0.out)).trans X0.out)
        have XB := zMk ((BL.out.cell (World.block_lt_of_cell? w3 _ X1.out)).trans X1.out)
        clear h3' hxn
        refine start_ (n:=18) (S:=fun w' => w'.cell? ⟨gw, 3, none⟩ = some (.slice (some ⟨g3, 0, none⟩) s.next.length c3) ∧ w'.cell? ⟨g3, v.toNat, none⟩ = some (.int .i64 (rd s.next v)) ∧ w'.cell? ⟨gw, 0, none⟩ = some (.slice (some adn) near.length cn) ∧ w'.cell? (adn.add v.toNat) = some (.slice (some ad2) L.length ci) ∧ w'.cell? (ad2.add ((rd s.next v).toNat * 2)) = some (.int .i64 a.f0) ∧ w'.cell? ⟨(ad2.add ((rd s.next v).toNat * 2)).block, (ad2.add ((rd s.next v).toNat * 2)).off + 1, none⟩ = some (.int .i64 a.f1)) (ds:=[17]) #[false,false,false,false,false,false,false,false,false,false,false,false,false,false,false,false,false,false] (by kernel_rfl) rfl rfl ⟨(zKc HW5.out.hw 3).trans (congrArg some E3.out), HXN.out, (zKc HW5.out.hw 0).trans rfl, HCL.out, XA.out, XB.out⟩ (fun hHeld => ?_)
        generalize w3.drew = w5 at HW5 BL HXN HCL XA XB hHeld ⊢
        refine pure_ (i:=0) (N:=some 46) (v:=?_) (a' := ?_) #[true,false,false,false,false,false,false,false,false,false,false,false,false,false,false,false,false,false] rfl rfl (by kernel_rfl) (fun _ _ _ h => h) (Or.inl ⟨by rfl, ?_⟩) ?_ ?_
        rotate_left
        · intro w'
          go_simp
          with_reducible rfl
        rotate_left
        · simp only [Act.put, zSa, zSb, zSc, i64_w, i32_w]
          rfl
        refine pure_ (i:=1) (N:=some 47) (v:=?_) (a' := ?_) #[true,true,false,false,false,false,false,false,false,false,false,false,false,false,false,false,false,false] rfl rfl (by kernel_rfl) (fun _ _ _ h => h) (Or.inl ⟨by rfl, ?_⟩) ?_ ?_
        rotate_left
        · intro w'
          go_simp
          with_reducible rfl
        rotate_left
        · simp only [Act.put, zSa, zSb, zSc, i64_w, i32_w]
          rfl
        refine pure_ (i:=2) (N:=some 48) (v:=?_) (a' := ?_) #[true,true,true,false,false,false,false,false,false,false,false,false,false,false,false,false,false,false] rfl rfl (by kernel_rfl) (fun _ _ _ h => h) (Or.inl ⟨by rfl, ?_⟩) ?_ ?_
        rotate_left
        · intro w'
          go_simp
          with_reducible rfl
        rotate_left
        · simp only [Act.put, zSa, zSb, zSc, i64_w, i32_w]
          rfl
        refine pure_ (i:=4) (N:=some 50) (v:=?_) (a' := ?_) #[true,true,true,false,true,false,false,false,false,false,false,false,false,false,false,false,false,false] rfl rfl (by kernel_rfl) (fun _ _ _ h => h) (Or.inl ⟨by rfl, ?_⟩) ?_ ?_
        rotate_left
        · intro w'
          go_simp
          with_reducible rfl
        rotate_left
        · simp only [Act.put, zSa, zSb, zSc, i64_w, i32_w]
          rfl
        refine pure_ (i:=7) (N:=some 53) (v:=?_) (a' := ?_) #[true,true,true,false,true,false,false,true,false,false,false,false,false,false,false,false,false,false] rfl rfl (by kernel_rfl) (fun _ _ _ h => h) (Or.inl ⟨by rfl, ?_⟩) ?_ ?_
        rotate_left
        · intro w'
          go_simp
          with_reducible rfl
        rotate_left
        · simp only [Act.put, zSa, zSb, zSc, i64_w, i32_w]
          rfl
        refine pure_ (i:=8) (N:=some 54) (v:=?_) (a' := ?_) #[true,true,true,false,true,false,false,true,true,false,false,false,false,false,false,false,false,false] rfl rfl (by kernel_rfl) (fun _ _ _ h => h) (Or.inl ⟨by rfl, ?_⟩) ?_ ?_
        rotate_left
        · intro w'
          go_simp
          with_reducible rfl
        rotate_left
        · simp only [Act.put, zSa, zSb, zSc, i64_w, i32_w]
          rfl
        refine pure_ (i:=9) (N:=some 55) (v:=?_) (a' := ?_) #[true,true,true,false,true,false,false,true,true,true,false,false,false,false,false,false,false,false] rfl rfl (by kernel_rfl) (fun _ _ _ h => h) (Or.inl ⟨by rfl, ?_⟩) ?_ ?_
        rotate_left
        · intro w'
          go_simp
          with_reducible rfl
        rotate_left
        · simp only [Act.put, zSa, zSb, zSc, i64_w, i32_w]
          rfl
        refine pure_ (i:=11) (N:=some 57) (v:=?_) (a' := ?_) #[true,true,true,false,true,false,false,true,true,true,false,true,false,false,false,false,false,false] rfl rfl (by kernel_rfl) (fun _ _ _ h => h) (Or.inl ⟨by rfl, ?_⟩) ?_ ?_
        rotate_left
        · intro w'
          go_simp
          with_reducible rfl
        rotate_left
        · simp only [Act.put, zSa, zSb, zSc, i64_w, i32_w]
          rfl
        refine take_ (i:=3) (N:=some 49) (v:=?_) (a' := ?_) #[true,true,true,true,true,false,false,true,true,true,false,true,false,false,false,false,false,false] rfl rfl (by kernel_rfl) (fun _ _ _ h => h) (Or.inl ⟨by rfl, ?_⟩) hHeld ?_ ?_
        rotate_left
        · rintro w' ⟨s0, s1, s2, s3, s4, s5⟩
          go_simp
          with_reducible rfl
        rotate_left
        · simp only [Act.put, zSa, zSb, zSc, i64_w, i32_w]
          rfl
        refine pure_ (i:=5) (N:=some 51) (v:=?_) (a' := ?_) #[true,true,true,true,true,true,false,true,true,true,false,true,false,false,false,false,false,false] rfl rfl (by kernel_rfl) (fun _ _ _ h => h) (Or.inl ⟨by rfl, ?_⟩) ?_ ?_
        rotate_left
        · intro w'
          go_simp
          with_reducible rfl
        rotate_left
        · simp only [Act.put, zSa, zSb, zSc, i64_w, i32_w]
          rfl
        refine take_ (i:=6) (N:=some 52) (v:=?_) (a' := ?_) #[true,true,true,true,true,true,true,true,true,true,false,true,false,false,false,false,false,false] rfl rfl (by kernel_rfl) (fun _ _ _ h => h) (Or.inl ⟨by rfl, ?_⟩) hHeld ?_ ?_
        rotate_left
        · rintro w' ⟨s0, s1, s2, s3, s4, s5⟩
          go_simp
          with_reducible rfl
        rotate_left
        · simp only [Act.put, zSa, zSb, zSc, i64_w, i32_w]
          rfl
        refine take_ (i:=10) (N:=some 56) (v:=?_) (a' := ?_) #[true,true,true,true,true,true,true,true,true,true,true,true,false,false,false,false,false,false] rfl rfl (by kernel_rfl) (fun _ _ _ h => h) (Or.inl ⟨by rfl, ?_⟩) hHeld ?_ ?_
        rotate_left
        · rintro w' ⟨s0, s1, s2, s3, s4, s5⟩
          go_simp
          with_reducible rfl
        rotate_left
        · simp only [Act.put, zSa, zSb, zSc, i64_w, i32_w]
          rfl
        refine pure_ (i:=12) (N:=some 58) (v:=?_) (a' := ?_) #[true,true,true,true,true,true,true,true,true,true,true,true,true,false,false,false,false,false] rfl rfl (by kernel_rfl) (fun _ _ _ h => h) (Or.inl ⟨by rfl, ?_⟩) ?_ ?_
        rotate_left
        · intro w'
          go_simp
          with_reducible rfl
        rotate_left
        · simp only [Act.put, zSa, zSb, zSc, i64_w, i32_w]
          rfl
        refine take_ (i:=13) (N:=some 59) (v:=?_) (a' := ?_) #[true,true,true,true,true,true,true,true,true,true,true,true,true,true,false,false,false,false] rfl rfl (by kernel_rfl) (fun _ _ _ h => h) (Or.inl ⟨by rfl, ?_⟩) hHeld ?_ ?_
        rotate_left
        · rintro w' ⟨s0, s1, s2, s3, s4, s5⟩
          go_simp
          with_reducible rfl
        rotate_left
        · simp only [Act.put, zSa, zSb, zSc, i64_w, i32_w]
          rfl
        refine pure_ (i:=14) (N:=some 60) (v:=?_) (a' := ?_) #[true,true,true,true,true,true,true,true,true,true,true,true,true,true,true,false,false,false] rfl rfl (by kernel_rfl) (fun _ _ _ h => h) (Or.inl ⟨by rfl, ?_⟩) ?_ ?_
        rotate_left
        · intro w'
          go_simp
          with_reducible rfl
        rotate_left
        · simp only [Act.put, zSa, zSb, zSc, i64_w, i32_w]
          rfl
        refine take_ (i:=15) (N:=some 61) (v:=?_) (a' := ?_) #[true,true,true,true,true,true,true,true,true,true,true,true,true,true,true,true,false,false] rfl rfl (by kernel_rfl) (fun _ _ _ h => h) (Or.inl ⟨by rfl, ?_⟩) hHeld ?_ ?_
        rotate_left
        · rintro w' ⟨s0, s1, s2, s3, s4, s5⟩
          go_simp
          with_reducible rfl
        rotate_left
        · simp only [Act.put, zSa, zSb, zSc, i64_w, i32_w]
          rfl
        refine one_ (i:=16) (N:=some 5) #[true,true,true,true,true,true,true,true,true,true,true,true,true,true,true,true,true,false] rfl rfl (by kernel_rfl) (by decide) (fun K hK => ?_)
        refine box_step ?hg (N:=5) ?hd (cs:=#[.int .i64 0, .int .i64 0]) (t:=51) ?hr ?_; (case hd => rfl); (case hg => rfl); (case hr => first | (go_simp; done) | (go_simp; rfl))
        intro ba hg wb hbox hb
        have HBA := zMk (show w0.heap.size ≤ ba ∧ wn.heap.size ≤ ba from ⟨hg ▸ zBs HW5.out.hBl, hg ▸ HW5.out.hK.1⟩)
        replace HW5 := zMk (HW5.out.below hb)
        have BL5 := zMk hb
        have BA := zMk hbox
        clear hg hbox hb
        refine hK.out _ _ ⟨(zKc HW5.out.hw 3).trans (congrArg some E3.out), (Below.cell BL5.out (World.block_lt_of_cell? w5 _ HXN.out)).trans HXN.out, (zKc HW5.out.hw 0).trans rfl, (Below.cell BL5.out (World.block_lt_of_cell? w5 _ HCL.out)).trans HCL.out, (Below.cell BL5.out (World.block_lt_of_cell? w5 _ XA.out)).trans XA.out, (Below.cell BL5.out (World.block_lt_of_cell? w5 _ XB.out)).trans XB.out⟩ (fun hHeld => ?_)
        clear hK K
        refine norm_ (a' := ?_) ?_ ?_
        rotate_left
        · show Act.put _ (some 5) _ = _
          simp only [Act.put, zSa, zSb, zSc, i64_w, i32_w]
          rfl
        refine last_ (i:=17) (N:=none) #[true,true,true,true,true,true,true,true,true,true,true,true,true,true,true,true,true,true] rfl rfl (by kernel_rfl) (by decide) (fun K hK => ?_)
        have hb0 : wb.cell? ⟨ba, 0, none⟩ = some (.int .i64 0) := (zKc BA.out 0).trans rfl
        have hb1 : wb.cell? ⟨ba, 1, none⟩ = some (.int .i64 0) := (zKc BA.out 1).trans rfl
        have hf0 := zKf BA.out 0
        have hf1 := zKf BA.out 1
        refine skip_ (w1:=?_) (by rfl) rfl ?_ ?_
        rotate_left
        · go_simp
          rfl
        refine hK.out _ _ ?_
        clear hK K
        refine done_ (by kernel_rfl) ?_
        have B1 := blk_put (cs:=#[.int .i64 0, .int .i64 0]) BA.out 0 (.int .i64 a.f0) rfl
        have HW6 := zMk ((HW5.out.box51 BA.out HBA.out.1 HBA.out.2 0 (.int .i64 a.f0)).box51 B1 HBA.out.1 HBA.out.2 1 (.int .i64 a.f1))
        have BA6 := zMk (blk_put (cs:=#[.int .i64 a.f0, .int .i64 0]) B1 1 (.int .i64 a.f1) rfl)
        clear B1 BA HW5 HXN HCL HCI XA XB X0 X1 BL BL5 hb0 hb1 hf0 hf1 HW3 p3 q1 q2
        generalize ((wb.setCell ⟨ba, 0, none⟩ (.int .i64 a.f0)).setCell ⟨ba, 1, none⟩ (.int .i64 a.f1)) = w6 at HW6 BA6 ⊢
        have h3' := HW6.out.h3
        rw [E3.out] at h3'
        obtain ⟨hxn, hfn⟩ := Kd.R_celln (0 : Int) h3' v HB.out.1 HB.out.2.1
        have zn : w6.cell? ⟨g3, v.toNat, none⟩ = some (.int .i64 (rd s.next v)) := hxn
        have z3 : w6.cell? ⟨gw, 3, none⟩ = some (.slice (some ⟨g3, 0, none⟩) s.next.length c3) := (zKc HW6.out.hw 3).trans (congrArg some E3.out)
        clear hxn h3'
        go_upto_region 7 with (fail)
        obtain ⟨t3, ht3⟩ := Kd.R_typed HW6.out.h3 g3 (by rw [E3.out]; exact wk_own)
        have BA7 := zMk (arc_far BA6.out ht3 (by decide) v.toNat (.int .i64 (wrap64 (rd s.next v + 1))))
        have HW7 := zMk (HW6.out.put3 E3.out v (wrap64 (rd s.next v + 1)))
        clear zn z3 hfn HW6 BA6 ht3
        generalize w6.setCell ⟨g3, v.toNat, none⟩ (.int .i64 (wrap64 (rd s.next v + 1))) = w7 at HW7 BA7 ⊢
        have h2 := H2.out
        clear H2
        generalize hsn : ({ s with next := s.next.set v.toNat (wrap64 (rd s.next v + 1)) } : Wk) = s1 at HW7 h2
        unfold wkArc at h2
        by_cases hta : 0 ≤ a.f1 ∧ a.f1 < (s1.taken.length : Int)
        rotate_left
        · rw [if_neg hta] at h2; cases h2
        rw [if_pos hta] at h2
        obtain ⟨g5, c5, e5, -, -, -⟩ := Kd.R_form HW7.out.h5 (by omega)
        have E5 := zMk e5
        have HTA := zMk hta
        have H2 := zMk h2
        have HW8 := zMk (HW7.out.below (zBd (Below.refl w7.heap.size w7)))
        have BA8 := zMk (zKd BA7.out)
        have h5' := HW8.out.h5
        rw [e5] at h5'
        obtain ⟨hxt, -⟩ := Kd.R_celln false h5' a.f1 hta.1 hta.2
        have HXT := zMk (show w7.drew.cell? ⟨g5, a.f1.toNat, none⟩ = some (.bool (rdOf false s1.taken a.f1)) from hxt)
        have q1 : (0 ≤ a.f1) = True := eq_true hta.1
        have q2 : (a.f1 < (s1.taken.length : Int)) = True := eq_true hta.2
        clear h2 hta e5 h5' hxt hsn
        refine start_ (n:=8) (S:=fun w' => w'.cell? ⟨gw, 5, none⟩ = some (.slice (some ⟨g5, 0, none⟩) s1.taken.length c5) ∧ w'.cell? ⟨ba, 1, none⟩ = some (.int .i64 a.f1) ∧ w'.cell? ⟨g5, a.f1.toNat, none⟩ = some (.bool (rdOf false s1.taken a.f1))) (ds:=[]) #[false,false,false,false,false,false,false,false] (by kernel_rfl) rfl rfl ⟨(zKc HW8.out.hw 5).trans (congrArg some E5.out), (zKc BA8.out 1).trans rfl, HXT.out⟩ (fun hHeld => ?_)
        generalize w7.drew = w8 at HW8 BA8 HXT hHeld ⊢
        refine pure_ (i:=0) (N:=some 71) (v:=?_) (a' := ?_) #[true,false,false,false,false,false,false,false] rfl rfl (by kernel_rfl) (fun _ _ _ h => h) (Or.inl ⟨by rfl, ?_⟩) ?_ ?_
        rotate_left
        · intro w'
          go_simp
          with_reducible rfl
        rotate_left
        · simp only [Act.put, zSa, zSb, zSc, i64_w, i32_w]
          rfl
        refine pure_ (i:=1) (N:=some 72) (v:=?_) (a' := ?_) #[true,true,false,false,false,false,false,false] rfl rfl (by kernel_rfl) (fun _ _ _ h => h) (Or.inl ⟨by rfl, ?_⟩) ?_ ?_
        rotate_left
        · intro w'
          go_simp
          with_reducible rfl
        rotate_left
        · simp only [Act.put, zSa, zSb, zSc, i64_w, i32_w]
          rfl
        refine pure_ (i:=2) (N:=some 73) (v:=?_) (a' := ?_) #[true,true,true,false,false,false,false,false] rfl rfl (by kernel_rfl) (fun _ _ _ h => h) (Or.inl ⟨by rfl, ?_⟩) ?_ ?_
        rotate_left
        · intro w'
          go_simp
          with_reducible rfl
        rotate_left
        · simp only [Act.put, zSa, zSb, zSc, i64_w, i32_w]
          rfl
        refine pure_ (i:=4) (N:=some 75) (v:=?_) (a' := ?_) #[true,true,true,false,true,false,false,false] rfl rfl (by kernel_rfl) (fun _ _ _ h => h) (Or.inl ⟨by rfl, ?_⟩) ?_ ?_
        rotate_left
        · intro w'
          go_simp
          with_reducible rfl
        rotate_left
        · simp only [Act.put, zSa, zSb, zSc, i64_w, i32_w]
          rfl
        refine take_ (i:=3) (N:=some 74) (v:=?_) (a' := ?_) #[true,true,true,true,true,false,false,false] rfl rfl (by kernel_rfl) (fun _ _ _ h => h) (Or.inl ⟨by rfl, ?_⟩) hHeld ?_ ?_
        rotate_left
        · rintro w' ⟨s0, s1, s2⟩
          go_simp
          with_reducible rfl
        rotate_left
        · simp only [Act.put, zSa, zSb, zSc, i64_w, i32_w]
          rfl
        refine take_ (i:=5) (N:=some 76) (v:=?_) (a' := ?_) #[true,true,true,true,true,true,false,false] rfl rfl (by kernel_rfl) (fun _ _ _ h => h) (Or.inl ⟨by rfl, ?_⟩) hHeld ?_ ?_
        rotate_left
        · rintro w' ⟨s0, s1, s2⟩
          go_simp
          with_reducible rfl
        rotate_left
        · simp only [Act.put, zSa, zSb, zSc, i64_w, i32_w]
          rfl
        refine pure_ (i:=6) (N:=some 77) (v:=?_) (a' := ?_) #[true,true,true,true,true,true,true,false] rfl rfl (by kernel_rfl) (fun _ _ _ h => h) (Or.inl ⟨by rfl, ?_⟩) ?_ ?_
        rotate_left
        · intro w'
          go_simp
          with_reducible rfl
        rotate_left
        · simp only [Act.put, zSa, zSb, zSc, i64_w, i32_w]
          rfl
        refine take_ (i:=7) (N:=some 78) (v:=?_) (a' := ?_) #[true,true,true,true,true,true,true,true] rfl rfl (by kernel_rfl) (fun _ _ _ h => h) (Or.inl ⟨by rfl, ?_⟩) hHeld ?_ ?_
        rotate_left
        · rintro w' ⟨s0, s1, s2⟩
          go_simp
          with_reducible rfl
        rotate_left
        · simp only [Act.put, zSa, zSb, zSc, i64_w, i32_w]
          rfl
        refine done_ (by kernel_rfl) ?_
        have h2 := H2.out
        clear H2 HXT HW7 BA7
        generalize htk : rdOf false s1.taken a.f1 = tk at h2 ⊢
        cases tk with
        | true =>
          rw [if_pos rfl] at h2
          obtain rfl := zOi h2
          clear h2 htk
          go_wp2
          go_roundg k1
          case measure => omega
          case rel => exact ⟨V, s1, HW8, HE⟩
        | false =>
          rw [if_neg Bool.false_ne_true] at h2
          by_cases hel : s1.edges.length < 17592186044415
          rotate_left
          · rw [if_neg hel] at h2; cases h2
          rw [if_pos hel] at h2
          have HEL := zMk hel
          have H2 := zMk h2
          clear hel h2 htk
          go_upto_region 8 with (fail)
          have HW9 := zMk (HW8.out.below (zBd (Below.refl w8.heap.size w8)))
          have BA9 := zMk (zKd BA8.out)
          refine start_ (n:=8) (S:=fun w' => w'.cell? ⟨gw, 5, none⟩ = some (.slice (some ⟨g5, 0, none⟩) s1.taken.length c5) ∧ w'.cell? ⟨ba, 1, none⟩ = some (.int .i64 a.f1)) (ds:=[7]) #[false,false,false,false,false,false,false,false] (by kernel_rfl) rfl rfl ⟨(zKc HW9.out.hw 5).trans (congrArg some E5.out), (zKc BA9.out 1).trans rfl⟩ (fun hHeld => ?_)
          generalize w8.drew = w9 at HW9 BA9 hHeld ⊢
          refine pure_ (i:=0) (N:=some 79) (v:=?_) (a' := ?_) #[true,false,false,false,false,false,false,false] rfl rfl (by kernel_rfl) (fun _ _ _ h => h) (Or.inl ⟨by rfl, ?_⟩) ?_ ?_
          rotate_left
          · intro w'
            go_simp
            with_reducible rfl
          rotate_left
          · simp only [Act.put, zSa, zSb, zSc, i64_w, i32_w]
            rfl
          refine pure_ (i:=1) (N:=some 80) (v:=?_) (a' := ?_) #[true,true,false,false,false,false,false,false] rfl rfl (by kernel_rfl) (fun _ _ _ h => h) (Or.inl ⟨by rfl, ?_⟩) ?_ ?_
          rotate_left
          · intro w'
            go_simp
            with_reducible rfl
          rotate_left
          · simp only [Act.put, zSa, zSb, zSc, i64_w, i32_w]
            rfl
          refine pure_ (i:=2) (N:=some 81) (v:=?_) (a' := ?_) #[true,true,true,false,false,false,false,false] rfl rfl (by kernel_rfl) (fun _ _ _ h => h) (Or.inl ⟨by rfl, ?_⟩) ?_ ?_
          rotate_left
          · intro w'
            go_simp
            with_reducible rfl
          rotate_left
          · simp only [Act.put, zSa, zSb, zSc, i64_w, i32_w]
            rfl
          refine pure_ (i:=4) (N:=some 83) (v:=?_) (a' := ?_) #[true,true,true,false,true,false,false,false] rfl rfl (by kernel_rfl) (fun _ _ _ h => h) (Or.inl ⟨by rfl, ?_⟩) ?_ ?_
          rotate_left
          · intro w'
            go_simp
            with_reducible rfl
          rotate_left
          · simp only [Act.put, zSa, zSb, zSc, i64_w, i32_w]
            rfl
          refine take_ (i:=3) (N:=some 82) (v:=?_) (a' := ?_) #[true,true,true,true,true,false,false,false] rfl rfl (by kernel_rfl) (fun _ _ _ h => h) (Or.inl ⟨by rfl, ?_⟩) hHeld ?_ ?_
          rotate_left
          · rintro w' ⟨s0, s1⟩
            go_simp
            with_reducible rfl
          rotate_left
          · simp only [Act.put, zSa, zSb, zSc, i64_w, i32_w]
            rfl
          refine take_ (i:=5) (N:=some 84) (v:=?_) (a' := ?_) #[true,true,true,true,true,true,false,false] rfl rfl (by kernel_rfl) (fun _ _ _ h => h) (Or.inl ⟨by rfl, ?_⟩) hHeld ?_ ?_
          rotate_left
          · rintro w' ⟨s0, s1⟩
            go_simp
            with_reducible rfl
          rotate_left
          · simp only [Act.put, zSa, zSb, zSc, i64_w, i32_w]
            rfl
          refine pure_ (i:=6) (N:=some 85) (v:=?_) (a' := ?_) #[true,true,true,true,true,true,true,false] rfl rfl (by kernel_rfl) (fun _ _ _ h => h) (Or.inl ⟨by rfl, ?_⟩) ?_ ?_
          rotate_left
          · intro w'
            go_simp
            with_reducible rfl
          rotate_left
          · simp only [Act.put, zSa, zSb, zSc, i64_w, i32_w]
            rfl
          refine last_ (i:=7) (N:=none) #[true,true,true,true,true,true,true,true] rfl rfl (by kernel_rfl) (by decide) (fun K hK => ?_)
          have h5' := HW9.out.h5
          rw [E5.out] at h5'
          obtain ⟨hxt2, hft⟩ := Kd.R_celln false h5' a.f1 HTA.out.1 HTA.out.2
          clear h5'
          refine skip_ (w1:=?_) (by rfl) rfl ?_ ?_
          rotate_left
          · go_simp
            rfl
          refine hK.out _ _ ?_
          clear hK K
          refine done_ (by kernel_rfl) ?_
          obtain ⟨t5, ht5⟩ := Kd.R_typed HW9.out.h5 g5 (by rw [E5.out]; exact wk_own)
          have BA10 := zMk (arc_far BA9.out ht5 (by decide) a.f1.toNat (.bool true))
          have HW10 := zMk (HW9.out.put5 E5.out a.f1 true)
          clear HW8 HW9 BA8 BA9 ht5 hft hxt2
          generalize w9.setCell ⟨g5, a.f1.toNat, none⟩ (.bool true) = w10 at HW10 BA10 ⊢
          obtain ⟨s3, hs3⟩ : ∃ s3 : Wk, s3 = { s1 with taken := s1.taken.set a.f1.toNat true } := ⟨_, rfl⟩
          have HS3 := zMk (show WkW w0 wn w10 gw (.slice (some adn) near.length cn) V s3 from hs3 ▸ HW10.out)
          have h2 := H2.out
          rw [show ({ s1 with taken := s1.taken.set a.f1.toNat true, edges := s1.edges ++ [a.f1] } : Wk) = { s3 with edges := s3.edges ++ [a.f1] } by rw [hs3]] at h2
          have HEL3 := zMk (show s3.edges.length < 17592186044415 by rw [hs3]; exact HEL.out)
          have H3 := zMk h2
          clear HW10 H2 h2 hs3
          obtain ⟨AE, cE, eE⟩ := zRs HS3.out.hE
          have EE := zMk eE
          clear eE
          go_upto_region 9 with (fail)
          have HW11 := zMk (HS3.out.below (zBd (Below.refl w10.heap.size w10)))
          have BA11 := zMk (zKd BA10.out)
          refine start_ (n:=12) (S:=fun w' => w'.cell? ⟨gw, 4, none⟩ = some (.slice AE s3.edges.length cE) ∧ w'.cell? ⟨ba, 1, none⟩ = some (.int .i64 a.f1)) (ds:=[11]) #[false,false,false,false,false,false,false,false,false,false,false,false] (by kernel_rfl) rfl rfl ⟨(zKc HW11.out.hw 4).trans (congrArg some EE.out), (zKc BA11.out 1).trans rfl⟩ (fun hHeld => ?_)
          generalize w10.drew = w11 at HW11 BA11 hHeld ⊢
          refine pure_ (i:=0) (N:=some 86) (v:=?_) (a' := ?_) #[true,false,false,false,false,false,false,false,false,false,false,false] rfl rfl (by kernel_rfl) (fun _ _ _ h => h) (Or.inl ⟨by rfl, ?_⟩) ?_ ?_
          rotate_left
          · intro w'
            go_simp
            with_reducible rfl
          rotate_left
          · simp only [Act.put, zSa, zSb, zSc, i64_w, i32_w]
            rfl
          refine pure_ (i:=1) (N:=some 87) (v:=?_) (a' := ?_) #[true,true,false,false,false,false,false,false,false,false,false,false] rfl rfl (by kernel_rfl) (fun _ _ _ h => h) (Or.inl ⟨by rfl, ?_⟩) ?_ ?_
          rotate_left
          · intro w'
            go_simp
            with_reducible rfl
          rotate_left
          · simp only [Act.put, zSa, zSb, zSc, i64_w, i32_w]
            rfl
          refine pure_ (i:=2) (N:=some 88) (v:=?_) (a' := ?_) #[true,true,true,false,false,false,false,false,false,false,false,false] rfl rfl (by kernel_rfl) (fun _ _ _ h => h) (Or.inl ⟨by rfl, ?_⟩) ?_ ?_
          rotate_left
          · intro w'
            go_simp
            with_reducible rfl
          rotate_left
          · simp only [Act.put, zSa, zSb, zSc, i64_w, i32_w]
            rfl
          refine pure_ (i:=3) (N:=some 89) (v:=?_) (a' := ?_) #[true,true,true,true,false,false,false,false,false,false,false,false] rfl rfl (by kernel_rfl) (fun _ _ _ h => h) (Or.inl ⟨by rfl, ?_⟩) ?_ ?_
          rotate_left
          · intro w'
            go_simp
            with_reducible rfl
          rotate_left
          · simp only [Act.put, zSa, zSb, zSc, i64_w, i32_w]
            rfl
          refine pure_ (i:=5) (N:=some 91) (v:=?_) (a' := ?_) #[true,true,true,true,false,true,false,false,false,false,false,false] rfl rfl (by kernel_rfl) (fun _ _ _ h => h) (Or.inl ⟨by rfl, ?_⟩) ?_ ?_
          rotate_left
          · intro w'
            go_simp
            with_reducible rfl
          rotate_left
          · simp only [Act.put, zSa, zSb, zSc, i64_w, i32_w]
            rfl
          refine take_ (i:=4) (N:=some 90) (v:=?_) (a' := ?_) #[true,true,true,true,true,true,false,false,false,false,false,false] rfl rfl (by kernel_rfl) (fun _ _ _ h => h) (Or.inl ⟨by rfl, ?_⟩) hHeld ?_ ?_
          rotate_left
          · rintro w' ⟨s0, s1⟩
            go_simp
            with_reducible rfl
          rotate_left
          · simp only [Act.put, zSa, zSb, zSc, i64_w, i32_w]
            rfl
          refine take_ (i:=6) (N:=some 92) (v:=?_) (a' := ?_) #[true,true,true,true,true,true,true,false,false,false,false,false] rfl rfl (by kernel_rfl) (fun _ _ _ h => h) (Or.inl ⟨by rfl, ?_⟩) hHeld ?_ ?_
          rotate_left
          · rintro w' ⟨s0, s1⟩
            go_simp
            with_reducible rfl
          rotate_left
          · simp only [Act.put, zSa, zSb, zSc, i64_w, i32_w]
            rfl
          refine one_ (i:=7) (N:=some 93) #[true,true,true,true,true,true,true,true,false,false,false,false] rfl rfl (by kernel_rfl) (by decide) (fun K hK => ?_)
          refine Kd.R_lit_step (Kd.int .i64) _ 3 ?hg (N:=93) ?hd (xs:=([a.f1] : List Int)) (inner:=[.int .i64 a.f1]) (ok:=fun _ => True) (okp:=fun _ => True) ?hr ?hp (fun _ hk => hk) trivial (Below.refl _ _) (Nat.le_refl _) (by simp) ?_; (case hd => rfl); (case hg => rfl); (case hr => first | (go_simp; done) | (go_simp; rfl)); (case hp => exact (Reps.one (show Kd.M (Kd.int .i64) _ _ _ a.f1 [.int .i64 a.f1] from rfl) (Reps.none _ _)))
          intro vL wl ho hb _ _
          replace HW11 := zMk (HW11.out.below hb)
          replace BA11 := zMk (zKb BA11.out hb)
          obtain ⟨AL, cL, eL⟩ := zRs ho
          subst eL
          have RL := zMk ho
          clear ho hb
          refine hK.out _ _ ⟨(zKc HW11.out.hw 4).trans (congrArg some EE.out), (zKc BA11.out 1).trans rfl⟩ (fun hHeld => ?_)
          clear hK K
          refine norm_ (a' := ?_) ?_ ?_
          rotate_left
          · show Act.put _ (some 93) _ = _
            simp only [Act.put, zSa, zSb, zSc, i64_w, i32_w]
            rfl
          refine one_ (i:=8) (N:=some 94) #[true,true,true,true,true,true,true,true,true,false,false,false] rfl rfl (by kernel_rfl) (by decide) (fun K hK => ?_)
          have hE' : Kd.R (Kd.int .i64) 3 wl w0.heap.size (fun _ => True) (.slice AE s3.edges.length cE) s3.edges := EE.out ▸ HW11.out.hE
          refine Kd.R_append_rows_step (Kd.int .i64) (w0:=w0) w0.heap.size (by rfl) (.tmp 90) (.tmp 93) 33 3 (.int .i64 0) 8 rfl Try.underlying33 info3 rfl (by decide) (by omega) (.slice AE s3.edges.length cE) s3.edges [a.f1] _ _ _ (fun _ => True) (fun _ => False) rfl rfl ?aO ?aR (fun _ _ h => h) (fun _ h => h.elim) ?aF ?aB ?aS ?aL ?_
          (case aO => exact hE')
          (case aR => exact uC (zRr RL.out).2.2)
          (case aF => exact fun _ _ => trivial)
          (case aB => exact HW11.out.hBl)
          (case aS => exact zBs HW11.out.hBl)
          (case aL => have := HEL3.out; simp only [zLc, zLn]; omega)
          intro vQ wq ho hb hg hat
          have HF := zMk (HW11.out.gedges hb (EE.out ▸ hg) ho (EE.out ▸ hat))
          have BQ := zMk (blk_grown BA11.out hg (Kd.R_ne hE' BA11.out (by decide)))
          have HQ := zMk (blk_grown HW11.out.hw hg (Kd.R_ne hE' HW11.out.hw (by decide)))
          generalize hen : s3.edges ++ [a.f1] = en at ho HF
          obtain ⟨AQ, cQ, eQ⟩ := zRs ho
          subst eQ
          have HEN := zMk hen
          clear ho hb hg hat hE' hen
          refine hK.out _ _ ⟨(zKc HQ.out 4).trans (congrArg some EE.out), (zKc BQ.out 1).trans rfl⟩ (fun hHeld => ?_)
          clear hK K
          refine norm_ (a' := ?_) ?_ ?_
          rotate_left
          · show Act.put _ (some 94) _ = _
            simp only [Act.put, zSa, zSb, zSc, i64_w, i32_w]
            rfl
          refine pure_ (i:=9) (N:=some 95) (v:=?_) (a' := ?_) #[true,true,true,true,true,true,true,true,true,true,false,false] rfl rfl (by kernel_rfl) (fun _ _ _ h => h) (Or.inl ⟨by rfl, ?_⟩) ?_ ?_
          rotate_left
          · intro w'
            go_simp
            with_reducible rfl
          rotate_left
          · simp only [Act.put, zSa, zSb, zSc, i64_w, i32_w]
            rfl
          refine pure_ (i:=10) (N:=some 96) (v:=?_) (a' := ?_) #[true,true,true,true,true,true,true,true,true,true,true,false] rfl rfl (by kernel_rfl) (fun _ _ _ h => h) (Or.inl ⟨by rfl, ?_⟩) ?_ ?_
          rotate_left
          · intro w'
            go_simp
            with_reducible rfl
          rotate_left
          · simp only [Act.put, zSa, zSb, zSc, i64_w, i32_w]
            rfl
          refine last_ (i:=11) (N:=none) #[true,true,true,true,true,true,true,true,true,true,true,true] rfl rfl (by kernel_rfl) (by decide) (fun K hK => ?_)
          have z4 : wq.cell? ⟨gw, 4, none⟩ = some (.slice AE s3.edges.length cE) := (zKc HQ.out 4).trans (congrArg some EE.out)
          have f4 := zKf HQ.out 4
          refine skip_ (w1:=?_) (by rfl) rfl ?_ ?_
          rotate_left
          · go_simp
            rfl
          refine hK.out _ _ ?_
          clear hK K
          refine done_ (by kernel_rfl) ?_
          have BA12 := zMk (arc_far BQ.out HQ.out (by decide) 4 (.slice AQ en.length cQ))
          have h3 := H3.out
          rw [HEN.out] at h3
          clear HS3 HW11 BA10 BA11 BQ HQ RL z4 f4 H3 HEN HEL HEL3
          generalize wq.setCell ⟨gw, 4, none⟩ (.slice AQ en.length cQ) = w12 at HF BA12 ⊢
          obtain ⟨s4, hs4⟩ : ∃ s4 : Wk, s4 = { s3 with edges := en } := ⟨_, rfl⟩
          rw [← hs4] at h3
          obtain ⟨V4, hV4⟩ : ∃ V4 : WkV, V4 = { V with vE := .slice AQ en.length cQ } := ⟨_, rfl⟩
          have HS4 := zMk (show WkW w0 wn w12 gw (.slice (some adn) near.length cn) V4 s4 from by rw [hs4, hV4]; exact HF.out)
          clear HF hs4 hV4
          unfold wkFar at h3
          by_cases hfa : 0 ≤ a.f0 ∧ a.f0 < (s4.ord.length : Int) ∧ v < (s4.low.length : Int)
          rotate_left
          · rw [if_neg hfa] at h3; cases h3
          rw [if_pos hfa] at h3
          have HFA := zMk hfa
          have H4 := zMk h3
          obtain ⟨g1, c1, e1, -, -, -⟩ := Kd.R_form HS4.out.h1 (by omega)
          have E1 := zMk e1
          clear hfa h3 e1
          go_upto_region 10 with (fail)
          have HW13 := zMk (HS4.out.below (zBd (Below.refl w12.heap.size w12)))
          have BA13 := zMk (zKd BA12.out)
          have h1' := HW13.out.h1
          rw [E1.out] at h1'
          obtain ⟨hxo, -⟩ := Kd.R_celln (0 : Int) h1' a.f0 HFA.out.1 HFA.out.2.1
          have HXO := zMk (show w12.drew.cell? ⟨g1, a.f0.toNat, none⟩ = some (.int .i64 (rd s4.ord a.f0)) from hxo)
          have u1 : (0 ≤ a.f0) = True := eq_true HFA.out.1
          have u2 : (a.f0 < (s4.ord.length : Int)) = True := eq_true HFA.out.2.1
          clear h1' hxo
          refine start_ (n:=9) (S:=fun w' => w'.cell? ⟨gw, 1, none⟩ = some (.slice (some ⟨g1, 0, none⟩) s4.ord.length c1) ∧ w'.cell? ⟨ba, 0, none⟩ = some (.int .i64 a.f0) ∧ w'.cell? ⟨g1, a.f0.toNat, none⟩ = some (.int .i64 (rd s4.ord a.f0))) (ds:=[]) #[false,false,false,false,false,false,false,false,false] (by kernel_rfl) rfl rfl ⟨(zKc HW13.out.hw 1).trans (congrArg some E1.out), (zKc BA13.out 0).trans rfl, HXO.out⟩ (fun hHeld => ?_)
          generalize w12.drew = w13 at HW13 BA13 HXO hHeld ⊢
          refine pure_ (i:=0) (N:=some 97) (v:=?_) (a' := ?_) #[true,false,false,false,false,false,false,false,false] rfl rfl (by kernel_rfl) (fun _ _ _ h => h) (Or.inl ⟨by rfl, ?_⟩) ?_ ?_
          rotate_left
          · intro w'
            go_simp
            with_reducible rfl
          rotate_left
          · simp only [Act.put, zSa, zSb, zSc, i64_w, i32_w]
            rfl
          refine pure_ (i:=1) (N:=some 98) (v:=?_) (a' := ?_) #[true,true,false,false,false,false,false,false,false] rfl rfl (by kernel_rfl) (fun _ _ _ h => h) (Or.inl ⟨by rfl, ?_⟩) ?_ ?_
          rotate_left
          · intro w'
            go_simp
            with_reducible rfl
          rotate_left
          · simp only [Act.put, zSa, zSb, zSc, i64_w, i32_w]
            rfl
          refine pure_ (i:=2) (N:=some 99) (v:=?_) (a' := ?_) #[true,true,true,false,false,false,false,false,false] rfl rfl (by kernel_rfl) (fun _ _ _ h => h) (Or.inl ⟨by rfl, ?_⟩) ?_ ?_
          rotate_left
          · intro w'
            go_simp
            with_reducible rfl
          rotate_left
          · simp only [Act.put, zSa, zSb, zSc, i64_w, i32_w]
            rfl
          refine pure_ (i:=4) (N:=some 101) (v:=?_) (a' := ?_) #[true,true,true,false,true,false,false,false,false] rfl rfl (by kernel_rfl) (fun _ _ _ h => h) (Or.inl ⟨by rfl, ?_⟩) ?_ ?_
          rotate_left
          · intro w'
            go_simp
            with_reducible rfl
          rotate_left
          · simp only [Act.put, zSa, zSb, zSc, i64_w, i32_w]
            rfl
          refine take_ (i:=3) (N:=some 100) (v:=?_) (a' := ?_) #[true,true,true,true,true,false,false,false,false] rfl rfl (by kernel_rfl) (fun _ _ _ h => h) (Or.inl ⟨by rfl, ?_⟩) hHeld ?_ ?_
          rotate_left
          · rintro w' ⟨s0, s1, s2⟩
            go_simp
            with_reducible rfl
          rotate_left
          · simp only [Act.put, zSa, zSb, zSc, i64_w, i32_w]
            rfl
          refine take_ (i:=5) (N:=some 102) (v:=?_) (a' := ?_) #[true,true,true,true,true,true,false,false,false] rfl rfl (by kernel_rfl) (fun _ _ _ h => h) (Or.inl ⟨by rfl, ?_⟩) hHeld ?_ ?_
          rotate_left
          · rintro w' ⟨s0, s1, s2⟩
            go_simp
            with_reducible rfl
          rotate_left
          · simp only [Act.put, zSa, zSb, zSc, i64_w, i32_w]
            rfl
          refine pure_ (i:=6) (N:=some 103) (v:=?_) (a' := ?_) #[true,true,true,true,true,true,true,false,false] rfl rfl (by kernel_rfl) (fun _ _ _ h => h) (Or.inl ⟨by rfl, ?_⟩) ?_ ?_
          rotate_left
          · intro w'
            go_simp
            with_reducible rfl
          rotate_left
          · simp only [Act.put, zSa, zSb, zSc, i64_w, i32_w]
            rfl
          refine take_ (i:=7) (N:=some 104) (v:=?_) (a' := ?_) #[true,true,true,true,true,true,true,true,false] rfl rfl (by kernel_rfl) (fun _ _ _ h => h) (Or.inl ⟨by rfl, ?_⟩) hHeld ?_ ?_
          rotate_left
          · rintro w' ⟨s0, s1, s2⟩
            go_simp
            with_reducible rfl
          rotate_left
          · simp only [Act.put, zSa, zSb, zSc, i64_w, i32_w]
            rfl
          refine pure_ (i:=8) (N:=some 105) (v:=?_) (a' := ?_) #[true,true,true,true,true,true,true,true,true] rfl rfl (by kernel_rfl) (fun _ _ _ h => h) (Or.inl ⟨by rfl, ?_⟩) ?_ ?_
          rotate_left
          · intro w'
            go_simp
            with_reducible rfl
          rotate_left
          · simp only [Act.put, zSa, zSb, zSc, i64_w, i32_w]
            rfl
          refine done_ (by kernel_rfl) ?_
          clear HXO HS4 BA12
          have h4 := H4.out
          clear H4
          by_cases hoz : rd s4.ord a.f0 = 0
          · rw [if_pos hoz] at h4
            have H5 := zMk h4
            have hd : (rd s4.ord a.f0 == 0) = true := beq_iff_eq.mpr hoz
            go_upto_if 105 with (fail)
            first | rw [hd] | skip
            clear h4 hoz hd
            have y0 : w13.cell? ⟨ba, 0, none⟩ = some (.int .i64 a.f0) := (zKc BA13.out 0).trans rfl
            have y1 : w13.cell? ⟨ba, 1, none⟩ = some (.int .i64 a.f1) := (zKc BA13.out 1).trans rfl
            go_wp2_with (go_at_call 62; refine (wkEnter.calls w0 wn _ gw _ V4 s4 s2 a.f0 a.f1 HW13.out H5.out).mono ?_; rintro e w14 ⟨rfl, vS, h6⟩; have HW14 := zMk h6; clear h6)
            clear y0 y1
            go_roundg k1
            case measure => omega
            case rel => exact ⟨_, s2, HW14, HE⟩
          · rw [if_neg hoz] at h4
            have h4s := zOi h4
            have hd : (rd s4.ord a.f0 == 0) = false := beq_eq_false_iff_ne.mpr hoz
            go_upto_if 105 with (fail)
            first | rw [hd] | skip
            have H4S := zMk h4s
            clear h4 h4s hoz hd
            obtain ⟨g2, c2, e2, -, -, -⟩ := Kd.R_form HW13.out.h2 (by have := HFA.out; have := HB.out; omega)
            have E2 := zMk e2
            clear e2
            go_upto_region 12 with (fail)
            have HW14 := zMk (HW13.out.below (zBd (Below.refl w13.heap.size w13)))
            have BA14 := zMk (zKd BA13.out)
            have h1' := HW14.out.h1
            rw [E1.out] at h1'
            obtain ⟨hxo, -⟩ := Kd.R_celln (0 : Int) h1' a.f0 HFA.out.1 HFA.out.2.1
            have HXO := zMk (show w13.drew.cell? ⟨g1, a.f0.toNat, none⟩ = some (.int .i64 (rd s4.ord a.f0)) from hxo)
            have h2' := HW14.out.h2
            rw [E2.out] at h2'
            obtain ⟨hxl, hfl⟩ := Kd.R_celln (0 : Int) h2' v HB.out.1 HFA.out.2.2
            have HXL := zMk (show w13.drew.cell? ⟨g2, v.toNat, none⟩ = some (.int .i64 (rd s4.low v)) from hxl)
            have u3 : (v < (s4.low.length : Int)) = True := eq_true HFA.out.2.2
            clear h1' hxo h2' hxl
            refine start_ (n:=23) (S:=fun w' => w'.cell? ⟨gw, 1, none⟩ = some (.slice (some ⟨g1, 0, none⟩) s4.ord.length c1) ∧ w'.cell? ⟨ba, 0, none⟩ = some (.int .i64 a.f0) ∧ w'.cell? ⟨g1, a.f0.toNat, none⟩ = some (.int .i64 (rd s4.ord a.f0)) ∧ w'.cell? ⟨gw, 2, none⟩ = some (.slice (some ⟨g2, 0, none⟩) s4.low.length c2) ∧ w'.cell? ⟨g2, v.toNat, none⟩ = some (.int .i64 (rd s4.low v))) (ds:=[22]) #[false,false,false,false,false,false,false,false,false,false,false,false,false,false,false,false,false,false,false,false,false,false,false] (by kernel_rfl) rfl rfl ⟨(zKc HW14.out.hw 1).trans (congrArg some E1.out), (zKc BA14.out 0).trans rfl, HXO.out, (zKc HW14.out.hw 2).trans (congrArg some E2.out), HXL.out⟩ (fun hHeld => ?_)
            generalize w13.drew = w14 at HW14 BA14 HXO HXL hfl hHeld ⊢
            refine pure_ (i:=0) (N:=some 112) (v:=?_) (a' := ?_) #[true,false,false,false,false,false,false,false,false,false,false,false,false,false,false,false,false,false,false,false,false,false,false] rfl rfl (by kernel_rfl) (fun _ _ _ h => h) (Or.inl ⟨by rfl, ?_⟩) ?_ ?_
            rotate_left
            · intro w'
              go_simp
              with_reducible rfl
            rotate_left
            · simp only [Act.put, zSa, zSb, zSc, i64_w, i32_w]
              rfl
            refine pure_ (i:=1) (N:=some 113) (v:=?_) (a' := ?_) #[true,true,false,false,false,false,false,false,false,false,false,false,false,false,false,false,false,false,false,false,false,false,false] rfl rfl (by kernel_rfl) (fun _ _ _ h => h) (Or.inl ⟨by rfl, ?_⟩) ?_ ?_
            rotate_left
            · intro w'
              go_simp
              with_reducible rfl
            rotate_left
            · simp only [Act.put, zSa, zSb, zSc, i64_w, i32_w]
              rfl
            refine pure_ (i:=2) (N:=some 114) (v:=?_) (a' := ?_) #[true,true,true,false,false,false,false,false,false,false,false,false,false,false,false,false,false,false,false,false,false,false,false] rfl rfl (by kernel_rfl) (fun _ _ _ h => h) (Or.inl ⟨by rfl, ?_⟩) ?_ ?_
            rotate_left
            · intro w'
              go_simp
              with_reducible rfl
            rotate_left
            · simp only [Act.put, zSa, zSb, zSc, i64_w, i32_w]
              rfl
            refine pure_ (i:=4) (N:=some 116) (v:=?_) (a' := ?_) #[true,true,true,false,true,false,false,false,false,false,false,false,false,false,false,false,false,false,false,false,false,false,false] rfl rfl (by kernel_rfl) (fun _ _ _ h => h) (Or.inl ⟨by rfl, ?_⟩) ?_ ?_
            rotate_left
            · intro w'
              go_simp
              with_reducible rfl
            rotate_left
            · simp only [Act.put, zSa, zSb, zSc, i64_w, i32_w]
              rfl
            refine pure_ (i:=5) (N:=some 117) (v:=?_) (a' := ?_) #[true,true,true,false,true,true,false,false,false,false,false,false,false,false,false,false,false,false,false,false,false,false,false] rfl rfl (by kernel_rfl) (fun _ _ _ h => h) (Or.inl ⟨by rfl, ?_⟩) ?_ ?_
            rotate_left
            · intro w'
              go_simp
              with_reducible rfl
            rotate_left
            · simp only [Act.put, zSa, zSb, zSc, i64_w, i32_w]
              rfl
            refine pure_ (i:=6) (N:=some 118) (v:=?_) (a' := ?_) #[true,true,true,false,true,true,true,false,false,false,false,false,false,false,false,false,false,false,false,false,false,false,false] rfl rfl (by kernel_rfl) (fun _ _ _ h => h) (Or.inl ⟨by rfl, ?_⟩) ?_ ?_
            rotate_left
            · intro w'
              go_simp
              with_reducible rfl
            rotate_left
            · simp only [Act.put, zSa, zSb, zSc, i64_w, i32_w]
              rfl
            refine pure_ (i:=7) (N:=some 119) (v:=?_) (a' := ?_) #[true,true,true,false,true,true,true,true,false,false,false,false,false,false,false,false,false,false,false,false,false,false,false] rfl rfl (by kernel_rfl) (fun _ _ _ h => h) (Or.inl ⟨by rfl, ?_⟩) ?_ ?_
            rotate_left
            · intro w'
              go_simp
              with_reducible rfl
            rotate_left
            · simp only [Act.put, zSa, zSb, zSc, i64_w, i32_w]
              rfl
            refine pure_ (i:=9) (N:=some 121) (v:=?_) (a' := ?_) #[true,true,true,false,true,true,true,true,false,true,false,false,false,false,false,false,false,false,false,false,false,false,false] rfl rfl (by kernel_rfl) (fun _ _ _ h => h) (Or.inl ⟨by rfl, ?_⟩) ?_ ?_
            rotate_left
            · intro w'
              go_simp
              with_reducible rfl
            rotate_left
            · simp only [Act.put, zSa, zSb, zSc, i64_w, i32_w]
              rfl
            refine pure_ (i:=12) (N:=some 124) (v:=?_) (a' := ?_) #[true,true,true,false,true,true,true,true,false,true,false,false,true,false,false,false,false,false,false,false,false,false,false] rfl rfl (by kernel_rfl) (fun _ _ _ h => h) (Or.inl ⟨by rfl, ?_⟩) ?_ ?_
            rotate_left
            · intro w'
              go_simp
              with_reducible rfl
            rotate_left
            · simp only [Act.put, zSa, zSb, zSc, i64_w, i32_w]
              rfl
            refine pure_ (i:=13) (N:=some 125) (v:=?_) (a' := ?_) #[true,true,true,false,true,true,true,true,false,true,false,false,true,true,false,false,false,false,false,false,false,false,false] rfl rfl (by kernel_rfl) (fun _ _ _ h => h) (Or.inl ⟨by rfl, ?_⟩) ?_ ?_
            rotate_left
            · intro w'
              go_simp
              with_reducible rfl
            rotate_left
            · simp only [Act.put, zSa, zSb, zSc, i64_w, i32_w]
              rfl
            refine pure_ (i:=14) (N:=some 126) (v:=?_) (a' := ?_) #[true,true,true,false,true,true,true,true,false,true,false,false,true,true,true,false,false,false,false,false,false,false,false] rfl rfl (by kernel_rfl) (fun _ _ _ h => h) (Or.inl ⟨by rfl, ?_⟩) ?_ ?_
            rotate_left
            · intro w'
              go_simp
              with_reducible rfl
            rotate_left
            · simp only [Act.put, zSa, zSb, zSc, i64_w, i32_w]
              rfl
            refine pure_ (i:=16) (N:=some 128) (v:=?_) (a' := ?_) #[true,true,true,false,true,true,true,true,false,true,false,false,true,true,true,false,true,false,false,false,false,false,false] rfl rfl (by kernel_rfl) (fun _ _ _ h => h) (Or.inl ⟨by rfl, ?_⟩) ?_ ?_
            rotate_left
            · intro w'
              go_simp
              with_reducible rfl
            rotate_left
            · simp only [Act.put, zSa, zSb, zSc, i64_w, i32_w]
              rfl
            refine take_ (i:=3) (N:=some 115) (v:=?_) (a' := ?_) #[true,true,true,true,true,true,true,true,false,true,false,false,true,true,true,false,true,false,false,false,false,false,false] rfl rfl (by kernel_rfl) (fun _ _ _ h => h) (Or.inl ⟨by rfl, ?_⟩) hHeld ?_ ?_
            rotate_left
            · rintro w' ⟨s0, s1, s2, s3, s4⟩
              go_simp
              with_reducible rfl
            rotate_left
            · simp only [Act.put, zSa, zSb, zSc, i64_w, i32_w]
              rfl
            refine take_ (i:=8) (N:=some 120) (v:=?_) (a' := ?_) #[true,true,true,true,true,true,true,true,true,true,false,false,true,true,true,false,true,false,false,false,false,false,false] rfl rfl (by kernel_rfl) (fun _ _ _ h => h) (Or.inl ⟨by rfl, ?_⟩) hHeld ?_ ?_
            rotate_left
            · rintro w' ⟨s0, s1, s2, s3, s4⟩
              go_simp
              with_reducible rfl
            rotate_left
            · simp only [Act.put, zSa, zSb, zSc, i64_w, i32_w]
              rfl
            refine pure_ (i:=10) (N:=some 122) (v:=?_) (a' := ?_) #[true,true,true,true,true,true,true,true,true,true,true,false,true,true,true,false,true,false,false,false,false,false,false] rfl rfl (by kernel_rfl) (fun _ _ _ h => h) (Or.inl ⟨by rfl, ?_⟩) ?_ ?_
            rotate_left
            · intro w'
              go_simp
              with_reducible rfl
            rotate_left
            · simp only [Act.put, zSa, zSb, zSc, i64_w, i32_w]
              rfl
            refine take_ (i:=11) (N:=some 123) (v:=?_) (a' := ?_) #[true,true,true,true,true,true,true,true,true,true,true,true,true,true,true,false,true,false,false,false,false,false,false] rfl rfl (by kernel_rfl) (fun _ _ _ h => h) (Or.inl ⟨by rfl, ?_⟩) hHeld ?_ ?_
            rotate_left
            · rintro w' ⟨s0, s1, s2, s3, s4⟩
              go_simp
              with_reducible rfl
            rotate_left
            · simp only [Act.put, zSa, zSb, zSc, i64_w, i32_w]
              rfl
            refine take_ (i:=15) (N:=some 127) (v:=?_) (a' := ?_) #[true,true,true,true,true,true,true,true,true,true,true,true,true,true,true,true,true,false,false,false,false,false,false] rfl rfl (by kernel_rfl) (fun _ _ _ h => h) (Or.inl ⟨by rfl, ?_⟩) hHeld ?_ ?_
            rotate_left
            · rintro w' ⟨s0, s1, s2, s3, s4⟩
              go_simp
              with_reducible rfl
            rotate_left
            · simp only [Act.put, zSa, zSb, zSc, i64_w, i32_w]
              rfl
            refine take_ (i:=17) (N:=some 129) (v:=?_) (a' := ?_) #[true,true,true,true,true,true,true,true,true,true,true,true,true,true,true,true,true,true,false,false,false,false,false] rfl rfl (by kernel_rfl) (fun _ _ _ h => h) (Or.inl ⟨by rfl, ?_⟩) hHeld ?_ ?_
            rotate_left
            · rintro w' ⟨s0, s1, s2, s3, s4⟩
              go_simp
              with_reducible rfl
            rotate_left
            · simp only [Act.put, zSa, zSb, zSc, i64_w, i32_w]
              rfl
            refine pure_ (i:=18) (N:=some 130) (v:=?_) (a' := ?_) #[true,true,true,true,true,true,true,true,true,true,true,true,true,true,true,true,true,true,true,false,false,false,false] rfl rfl (by kernel_rfl) (fun _ _ _ h => h) (Or.inl ⟨by rfl, ?_⟩) ?_ ?_
            rotate_left
            · intro w'
              go_simp
              with_reducible rfl
            rotate_left
            · simp only [Act.put, zSa, zSb, zSc, i64_w, i32_w]
              rfl
            refine take_ (i:=19) (N:=some 131) (v:=?_) (a' := ?_) #[true,true,true,true,true,true,true,true,true,true,true,true,true,true,true,true,true,true,true,true,false,false,false] rfl rfl (by kernel_rfl) (fun _ _ _ h => h) (Or.inl ⟨by rfl, ?_⟩) hHeld ?_ ?_
            rotate_left
            · rintro w' ⟨s0, s1, s2, s3, s4⟩
              go_simp
              with_reducible rfl
            rotate_left
            · simp only [Act.put, zSa, zSb, zSc, i64_w, i32_w]
              rfl
            refine pure_ (i:=20) (N:=some 132) (v:=?_) (a' := ?_) #[true,true,true,true,true,true,true,true,true,true,true,true,true,true,true,true,true,true,true,true,true,false,false] rfl rfl (by kernel_rfl) (fun _ _ _ h => h) (Or.inl ⟨by rfl, ?_⟩) ?_ ?_
            rotate_left
            · intro w'
              go_simp
              with_reducible rfl
            rotate_left
            · simp only [Act.put, zSa, zSb, zSc, i64_w, i32_w]
              rfl
            refine pure_ (i:=21) (N:=some 133) (v:=?_) (a' := ?_) #[true,true,true,true,true,true,true,true,true,true,true,true,true,true,true,true,true,true,true,true,true,true,false] rfl rfl (by kernel_rfl) (fun _ _ _ h => h) (Or.inl ⟨by rfl, ?_⟩) ?_ ?_
            rotate_left
            · intro w'
              go_simp
              with_reducible rfl
            rotate_left
            · simp only [Act.put, zSa, zSb, zSc, i64_w, i32_w]
              rfl
            refine last_ (i:=22) (N:=none) #[true,true,true,true,true,true,true,true,true,true,true,true,true,true,true,true,true,true,true,true,true,true,true] rfl rfl (by kernel_rfl) (by decide) (fun K hK => ?_)
            have hxl2 := HXL.out
            refine skip_ (w1:=?_) (by rfl) rfl ?_ ?_
            rotate_left
            · go_simp
              rfl
            refine hK.out _ _ ?_
            clear hK K
            refine done_ (by kernel_rfl) ?_
            have HF := zMk (HW14.out.put2 E2.out v (if rd s4.ord a.f0 < rd s4.low v then rd s4.ord a.f0 else rd s4.low v))
            rw [H4S.out] at HF
            clear HW13 HW14 BA13 BA14 HXO HXL hxl2
            generalize w14.setCell ⟨g2, v.toNat, none⟩ (.int .i64 (if rd s4.ord a.f0 < rd s4.low v then rd s4.ord a.f0 else rd s4.low v)) = w15 at HF ⊢
            try go_wp2
            all_goals
              go_roundg k1
              case measure => omega
              case rel => exact ⟨_, s2, HF, HE⟩
theorem wkRun2.calls (near : List (List S51)) (k : Nat) (w0 wn w : World) (gw : Nat) (An : Option Addr) (cn : Nat) (V : WkV) (s s' : Wk) (root : Int) (nb : Nat) (okn : Nat → Prop) (hn : Kd.S (Kd.slice 51 k51) 49 wn nb okn (.slice An near.length cn) near)
    (h : WkW w0 wn w gw (.slice An near.length cn) V s) (he : wkRun (wkLeave wkOff (wkMore near) near) near k s root = some s') :
    Calls Try.prog 45 #[.pointer (some ⟨gw, 0, none⟩), .int .i64 root] w fun e w' => e = .returned (.tuple #[]) ∧ ∃ V', WkW w0 wn w' gw (.slice An near.length cn) V' s' :=
  wkRun.calls (wkLeave wkOff (wkMore near) near) near k w0 wn w gw An cn V s s' root
    (fun W V s s' hW hl => wkLeave.calls wkOff (wkMore near) near w0 wn W gw An cn V s s'
      (fun W V s s' x hW ho => wkOff.calls w0 wn W gw _ V s s' x hW ho)
      (fun W V s x b hW hm => wkMore.calls near w0 wn W gw An cn V s x b nb okn hn hW hm)
      nb okn hn hW hl)
    nb okn hn h he
def At (E : List S43) (j v a : Int) : Prop := ∃ i : Nat, ∃ h : i < E.length, j = (i : Int) ∧ ((E[i].f0 = v ∧ E[i].f1 = a) ∨ (E[i].f1 = v ∧ E[i].f0 = a))
theorem At.swap {E : List S43} {j v a : Int} (h : At E j v a) : At E j a v := by
 obtain ⟨i, hi, e, h⟩ := h
 exact ⟨i, hi, e, h.elim (fun x => .inr ⟨x.2, x.1⟩) (fun x => .inl ⟨x.2, x.1⟩)⟩
theorem At.cn {E : List S43} {j v a : Int} (h : At E j v a) : Cn E v a := by
 obtain ⟨i, hi, -, ⟨h1, h2⟩ | ⟨h1, h2⟩⟩ := h
 ·rw [← h1, ← h2]; exact .fwd _ (List.getElem_mem hi) (.refl _)
 ·rw [← h1, ← h2]; exact .bwd _ (List.getElem_mem hi) (.refl _)
theorem At.rng {E : List S43} {j v a : Int} (h : At E j v a) : 0 ≤ j ∧ j < (E.length : Int) := by
 obtain ⟨i, hi, rfl, -⟩ := h
 omega
theorem At.inn {N : Nat} {E : List S43} (hE : Ends N E) {j v a : Int} (h : At E j v a) : (0 ≤ v ∧ v < (N : Int)) ∧ 0 ≤ a ∧ a < (N : Int) := by
 obtain ⟨i, hi, -, h⟩ := h
 have hb := hE _ (List.getElem_mem hi)
 rcases h with ⟨h1, h2⟩ | ⟨h1, h2⟩ <;> rw [← h1, ← h2]
 ·exact ⟨⟨hb.1, hb.2.1⟩, hb.2.2.1, hb.2.2.2⟩
 ·exact ⟨⟨hb.2.2.1, hb.2.2.2⟩, hb.1, hb.2.1⟩
theorem At.ne {N : Nat} {E : List S43} (hR : Rt N E) {j v a : Int} (h : At E j v a) : v ≠ a := by
 obtain ⟨i, hi, -, h⟩ := h
 have hb := hR.lt _ (List.getElem_mem hi)
 omega
theorem At.two {E : List S43} {j v a u b : Int} (h : At E j v a) (h2 : At E j u b) : (u = v ∧ b = a) ∨ (u = a ∧ b = v) := by
 obtain ⟨i, hi, e, h⟩ := h
 obtain ⟨i2, hi2, e2, h2⟩ := h2
 obtain rfl : i = i2 := by omega
 omega
theorem At.one {N : Nat} {E : List S43} (hR : Rt N E) {i j v a : Int} (h : At E i v a) (h2 : At E j v a) : i = j := by
 obtain ⟨x, hx, e, h⟩ := h
 obtain ⟨y, hy, e2, h2⟩ := h2
 have h0 := hR.lt _ (List.getElem_mem hx)
 have h1 := hR.lt _ (List.getElem_mem hy)
 have hu := List.pairwise_iff_getElem.1 hR.up
 have hne : ∀ (a b : S43), a.f0 = b.f0 → a.f1 = b.f1 → ordE a b ≠ -1 := fun a b h1 h2 => by unfold ordE; rw [if_neg (by omega), if_neg (by omega), if_neg (by omega), if_neg (by omega)]; omega
 rcases Nat.lt_trichotomy x y with hl | hl | hl
 ·exact absurd (hu x y hx hy hl) (hne _ _ (by omega) (by omega))
 ·omega
 ·exact absurd (hu y x hy hx hl) (hne _ _ (by omega) (by omega))
theorem arc_at {E : List S43} {v : Int} {a : S51} : a ∈ arcsOf E v ↔ At E a.f1 v a.f0 := by
 rw [mem_arcsOf]
 exact Iff.rfl
theorem rd51_get (l : List S51) (i : Nat) (h : i < l.length) : rd_T51 l (i : Int) = l[i] := by
 unfold rd_T51
 rw [zTn]
 simp [h]
theorem rd51_mem (l : List S51) (i : Int) (h0 : 0 ≤ i) (h : i < (l.length : Int)) : rd_T51 l i ∈ l := by
 obtain ⟨i, rfl⟩ := Int.eq_ofNat_of_zero_le h0
 rw [rd51_get l i (by omega)]
 exact List.getElem_mem _
theorem at_arc {E : List S43} {j v a : Int} (h : At E j v a) : ∃ i : Nat, i < (arcsOf E v).length ∧ (rd_T51 (arcsOf E v) i).f1 = j ∧ (rd_T51 (arcsOf E v) i).f0 = a := by
 have hm : (⟨a, j⟩ : S51) ∈ arcsOf E v := arc_at.2 h
 obtain ⟨i, hi, e⟩ := List.mem_iff_getElem.1 hm
 exact ⟨i, hi, by rw [rd51_get _ i hi, e], by rw [rd51_get _ i hi, e]⟩
theorem count_set (x y : Int) (hxy : y ≠ x) : ∀ (l : List Int) (i : Nat), i < l.length → rd l i = x → (l.set i y).count x + 1 = l.count x
 | [], _, h, _ => by simp at h
 | a :: l, 0, _, h => by
  have e : a = x := by simpa [rd] using h
  simp [hxy, e]
 | a :: l, i + 1, h, hx => by
  have := count_set x y hxy l i (by simpa using h) (by simpa [rd] using hx)
  rw [zSc, List.count_cons, List.count_cons]
  omega
structure Fr where
 v : Int
 by_ : Int
 seg : List Int
def frS (f : Fr) : S51 := ⟨f.v, f.by_⟩
def stOf (F : List Fr) : List S51 := (F.map frS).reverse
def edOf (F : List Fr) : List Int := (F.map Fr.seg).reverse.flatten
theorem stOf_cons (c : Fr) (F : List Fr) : stOf (c :: F) = stOf F ++ [frS c] := by simp [stOf]
theorem edOf_cons (c : Fr) (F : List Fr) : edOf (c :: F) = edOf F ++ c.seg := by simp [edOf]
theorem stOf_len (F : List Fr) : (stOf F).length = F.length := by simp [stOf]
theorem stOf_top (c : Fr) (F : List Fr) : rd_T51 (stOf (c :: F)) (F.length : Nat) = frS c := by
 rw [stOf_cons, rd51_get _ _ (by simp [stOf])]
 rw [List.getElem_append_right (by simp [stOf])]
 simp
theorem stOf_sec (c p : Fr) (F : List Fr) : rd_T51 (stOf (c :: p :: F)) (F.length : Nat) = frS p := by
 rw [stOf_cons, rd51_get _ _ (by simp [stOf]), List.getElem_append_left (by simp [stOf]), ← rd51_get, stOf_top]
theorem stOf_take (c : Fr) (F : List Fr) : (stOf (c :: F)).take F.length = stOf F := by
 rw [stOf_cons, List.take_append_of_le_length (by simp [stOf]), List.take_of_length_le (by simp [stOf])]
theorem mem_edOf {F : List Fr} {j : Int} : j ∈ edOf F ↔ ∃ f ∈ F, j ∈ f.seg := by
 unfold edOf
 rw [List.mem_flatten]
 constructor
 ·rintro ⟨l, hl, hj⟩
  rw [List.mem_reverse, List.mem_map] at hl
  obtain ⟨f, hf, rfl⟩ := hl
  exact ⟨f, hf, hj⟩
 ·rintro ⟨f, hf, hj⟩
  exact ⟨f.seg, by rw [List.mem_reverse]; exact List.mem_map_of_mem hf, hj⟩
def Tk (s : Wk) (j : Int) : Prop := rdOf false s.taken j = true
instance Tk.dec (s : Wk) (j : Int) : Decidable (Tk s j) := inferInstanceAs (Decidable (rdOf false s.taken j = true))
structure IA (N : Nat) (E : List S43) (s : Wk) (F : List Fr) : Prop where
 lo : s.ord.length = N
 ll : s.low.length = N
 ln : s.next.length = N
 lt : s.taken.length = E.length
 lc : s.cut.length = N
 stk : s.stack = stOf F
 edg : s.edges = edOf F
 clk : s.clock + (s.ord.count 0 : Int) = N
 c0 : 0 ≤ s.clock
 ordr : ∀ v, 0 ≤ v → v < (N : Int) → 0 ≤ rd s.ord v ∧ rd s.ord v ≤ s.clock
 ordi : ∀ u v, 0 ≤ u → u < (N : Int) → 0 ≤ v → v < (N : Int) → rd s.ord u = rd s.ord v → rd s.ord u ≠ 0 → u = v
 inF : ∀ f ∈ F, 0 ≤ f.v ∧ f.v < (N : Int) ∧ rd s.ord f.v ≠ 0
 asc : F.Pairwise (fun a b => rd s.ord b.v < rd s.ord a.v)
 nx : ∀ v, 0 ≤ v → v < (N : Int) → 0 ≤ rd s.next v ∧ rd s.next v ≤ ((arcsOf E v).length : Int) ∧ ∀ i : Nat, (i : Int) < rd s.next v → Tk s (rd_T51 (arcsOf E v) i).f1
 fin : ∀ v, 0 ≤ v → v < (N : Int) → rd s.ord v ≠ 0 → (∀ f ∈ F, f.v ≠ v) → rd s.next v = ((arcsOf E v).length : Int)
 un : ∀ v, 0 ≤ v → v < (N : Int) → rd s.ord v = 0 → rd s.next v = 0
 ent : ∀ j v a, At E j v a → Tk s j → rd s.ord v ≠ 0
 part : ∀ j, 0 ≤ j → j < (E.length : Int) → (Tk s j ↔ j ∈ s.edges ∨ ∃ b ∈ s.blocks, j ∈ b)
 nd : (s.edges ++ s.blocks.flatten).Nodup
 rng : ∀ j ∈ s.edges ++ s.blocks.flatten, 0 ≤ j ∧ j < (E.length : Int)
 tree : ∀ P c p R, F = P ++ c :: p :: R → At E c.by_ p.v c.v ∧ ∃ t, c.seg = c.by_ :: t
 root : ∀ P f, F = P ++ [f] → f.seg = []
 low : ∀ P f R, F = P ++ f :: R → rd s.low f.v ≤ rd s.ord f.v ∧ ∃ g ∈ f :: R, rd s.ord g.v = rd s.low f.v
 bl : ∀ b ∈ s.blocks, b ≠ [] ∧ b.Pairwise (· < ·)
section
variable {N : Nat} {E : List S43} {s : Wk} {F : List Fr}
theorem IA.clkN (h : IA N E s F) : s.clock ≤ N := by have := h.clk; omega
theorem IA.done (h : IA N E s F) {j v a : Int} (hj : At E j v a) (v0 : 0 ≤ v) (v1 : v < (N : Int)) (hn : rd s.next v = ((arcsOf E v).length : Int)) : Tk s j := by
 obtain ⟨i, hi, e1, e2⟩ := at_arc hj
 have := (h.nx v v0 v1).2.2 i (by omega)
 rwa [e1] at this
theorem IA.elen (h : IA N E s F) (hR : Rt N E) : s.edges.length ≤ 4194304 ∧ s.blocks.length ≤ 4194304 := by
 have h1 : (s.edges ++ s.blocks.flatten).length ≤ E.length := by
  have := List.Nodup.length_le_of_subset h.nd (l₂:=ups E.length) (fun x hx => mem_ups.2 (h.rng x hx))
  rwa [ups_len] at this
 have h2 : s.blocks.length ≤ s.blocks.flatten.length := by
  have hb := h.bl
  generalize s.blocks = bs at hb
  clear h1
  induction bs with
  | nil => exact Nat.le_refl _
  | cons b bs ih =>
   have h3 := ih (fun b hb2 => hb b (List.mem_cons_of_mem _ hb2))
   have h4 : 0 < b.length := List.length_pos_iff.2 (hb b (List.mem_cons_self ..)).1
   rw [List.flatten_cons, List.length_append, zLc]
   omega
 rw [List.length_append] at h1
 have := hR.E1
 omega
theorem IA.slen (h : IA N E s F) : F.length ≤ N := by
 have h1 : (F.map Fr.v).Nodup := by
  rw [List.nodup_iff_pairwise_ne, List.pairwise_map]
  exact h.asc.imp (fun {a b} hab e => by rw [e] at hab; omega)
 have := List.Nodup.length_le_of_subset h1 (l₂:=ups N) (fun x hx => by
  obtain ⟨f, hf, rfl⟩ := List.mem_map.1 hx
  exact mem_ups.2 ⟨(h.inF f hf).1, (h.inF f hf).2.1⟩)
 rwa [ups_len, List.length_map] at this
end
section
variable {N : Nat} {E : List S43} {s : Wk} {F R : List Fr} {p c : Fr}
theorem rdb_tk (h : IA N E s F) {e : Int} (e0 : 0 ≤ e) (e1 : e < (E.length : Int)) (j : Int) (j0 : 0 ≤ j) : rdOf false (s.taken.set e.toNat true) j = true ↔ j = e ∨ Tk s j := by
 rw [rdb_set _ _ _ _ e0 (by rw [h.lt]; exact e1) j0]
 unfold Tk
 split
 ·simp [*]
 ·simp [*]
theorem IA.skip (h : IA N E s (p :: R)) (hlt : rd s.next p.v < ((arcsOf E p.v).length : Int)) (htk : Tk s (rd_T51 (arcsOf E p.v) (rd s.next p.v)).f1) : IA N E { s with next := s.next.set p.v.toNat (rd s.next p.v + 1) } (p :: R) := by
 obtain ⟨p0, p1, p2⟩ := h.inF p (List.mem_cons_self ..)
 have rn : ∀ v, 0 ≤ v → rd (s.next.set p.v.toNat (rd s.next p.v + 1)) v = if v = p.v then rd s.next p.v + 1 else rd s.next v := fun v v0 => rd_set _ _ _ _ p0 (by rw [h.ln]; exact p1) v0
 have hp := h.nx p.v p0 p1
 refine { h with ln := by rw [List.length_set]; exact h.ln, nx := fun v v0 v1 => ?_, fin := fun v v0 v1 hv hF => ?_, un := fun v v0 v1 hv => ?_ }
 ·show 0 ≤ rd (s.next.set p.v.toNat (rd s.next p.v + 1)) v ∧ rd (s.next.set p.v.toNat (rd s.next p.v + 1)) v ≤ _ ∧ ∀ i : Nat, (i : Int) < rd (s.next.set p.v.toNat (rd s.next p.v + 1)) v → _
  rw [rn v v0]
  by_cases e : v = p.v
  ·rw [if_pos e, e]
   refine ⟨by omega, by omega, fun i hi => ?_⟩
   by_cases hi2 : (i : Int) < rd s.next p.v
   ·exact hp.2.2 i hi2
   ·have e2 : (i : Int) = rd s.next p.v := by omega
    rw [e2]; exact htk
  ·rw [if_neg e]; exact h.nx v v0 v1
 ·show rd (s.next.set p.v.toNat (rd s.next p.v + 1)) v = _
  rw [rn v v0, if_neg (fun e => hF p (List.mem_cons_self ..) e.symm)]
  exact h.fin v v0 v1 hv hF
 ·show rd (s.next.set p.v.toNat (rd s.next p.v + 1)) v = _
  rw [rn v v0, if_neg (fun e => p2 (by rw [← e]; exact hv))]
  exact h.un v v0 v1 hv
theorem IA.back (hR : Rt N E) (h : IA N E s (p :: R)) {e a : Int} (he : At E e p.v a) (hu : ¬ Tk s e) (ha : rd s.ord a ≠ 0) : ∃ g ∈ R, g.v = a := by
 obtain ⟨-, a0, a1⟩ := he.inn hR.ends
 refine Classical.byContradiction fun hn => hu ?_
 have hpa := he.ne hR
 refine h.done he.swap a0 a1 (h.fin a a0 a1 ha (fun f hf e => ?_))
 rcases List.mem_cons.1 hf with rfl | hf
 ·exact hpa e
 ·exact hn ⟨f, hf, e⟩
theorem not_last {p : Fr} {R : List Fr} {g : Fr} (h : g ∈ R) (P : List Fr) (f : Fr) (e : p :: R = P ++ [f]) : ∃ P', P = p :: P' ∧ R = P' ++ [f] := by
 cases P with
 | nil => simp at e; rw [e.2] at h; cases h
 | cons x P => simp at e; exact ⟨P, by rw [e.1], e.2⟩
theorem IA.goBack (hR : Rt N E) (h : IA N E s (p :: R)) {e a : Int} (hlt : rd s.next p.v < ((arcsOf E p.v).length : Int)) (hea : (rd_T51 (arcsOf E p.v) (rd s.next p.v)) = ⟨a, e⟩) (he : At E e p.v a) (hu : ¬ Tk s e) (ha : rd s.ord a ≠ 0) :
  IA N E { s with next := s.next.set p.v.toNat (rd s.next p.v + 1), taken := s.taken.set e.toNat true, edges := s.edges ++ [e], low := s.low.set p.v.toNat (if rd s.ord a < rd s.low p.v then rd s.ord a else rd s.low p.v) } ({ p with seg := p.seg ++ [e] } :: R) := by
 obtain ⟨p0, p1, p2⟩ := h.inF p (List.mem_cons_self ..)
 obtain ⟨-, a0, a1⟩ := he.inn hR.ends
 obtain ⟨e0, e1⟩ := he.rng
 obtain ⟨g, hg, hga⟩ := h.back hR he hu ha
 have rn : ∀ v, 0 ≤ v → rd (s.next.set p.v.toNat (rd s.next p.v + 1)) v = if v = p.v then rd s.next p.v + 1 else rd s.next v := fun v v0 => rd_set _ _ _ _ p0 (by rw [h.ln]; exact p1) v0
 have rt := rdb_tk h e0 e1
 have hp := h.nx p.v p0 p1
 have hasc := List.pairwise_cons.1 h.asc
 have hnm : e ∉ s.edges ∧ ∀ b ∈ s.blocks, e ∉ b := by
  constructor
  ·intro hm; exact hu ((h.part e e0 e1).2 (.inl hm))
  ·intro b hb hm; exact hu ((h.part e e0 e1).2 (.inr ⟨b, hb, hm⟩))
 have rl : ∀ v x, 0 ≤ v → rd (s.low.set p.v.toNat x) v = if v = p.v then x else rd s.low v := fun v x v0 => rd_set _ _ _ _ p0 (by rw [h.ll]; exact p1) v0
 constructor
 case lo => exact h.lo
 case ll => exact (List.length_set ..).trans h.ll
 case ln => exact (List.length_set ..).trans h.ln
 case lt => exact (List.length_set ..).trans h.lt
 case lc => exact h.lc
 case stk => exact h.stk
 case edg => show s.edges ++ [e] = _; rw [h.edg, edOf_cons, edOf_cons, List.append_assoc]
 case clk => exact h.clk
 case c0 => exact h.c0
 case ordr => exact h.ordr
 case ordi => exact h.ordi
 case inF =>
  intro f hf
  rcases List.mem_cons.1 hf with rfl | hf
  ·exact ⟨p0, p1, p2⟩
  ·exact h.inF f (List.mem_cons_of_mem _ hf)
 case asc => exact List.pairwise_cons.2 ⟨hasc.1, hasc.2⟩
 case nx =>
  intro v v0 v1
  show 0 ≤ rd (s.next.set p.v.toNat (rd s.next p.v + 1)) v ∧ rd (s.next.set p.v.toNat (rd s.next p.v + 1)) v ≤ _ ∧ ∀ i : Nat, (i : Int) < rd (s.next.set p.v.toNat (rd s.next p.v + 1)) v → rdOf false (s.taken.set e.toNat true) _ = true
  rw [rn v v0]
  have htk : ∀ i : Nat, i < (arcsOf E v).length → Tk s (rd_T51 (arcsOf E v) i).f1 → rdOf false (s.taken.set e.toNat true) (rd_T51 (arcsOf E v) i).f1 = true := fun i hi ht =>
   (rt _ (arc_at.1 (rd51_mem _ _ (by omega) (by omega))).rng.1).2 (.inr ht)
  by_cases ev : v = p.v
  ·rw [if_pos ev]
   subst ev
   refine ⟨by omega, by omega, fun i hi => ?_⟩
   by_cases hi2 : (i : Int) < rd s.next p.v
   ·exact htk i (by omega) (hp.2.2 i hi2)
   ·have e2 : (i : Int) = rd s.next p.v := by omega
    rw [e2, hea]
    exact (rt e e0).2 (.inl rfl)
  ·rw [if_neg ev]
   have h1 := h.nx v v0 v1
   exact ⟨h1.1, h1.2.1, fun i hi => htk i (by omega) (h1.2.2 i hi)⟩
 case fin =>
  intro v v0 v1 hv hF
  show rd (s.next.set p.v.toNat (rd s.next p.v + 1)) v = _
  rw [rn v v0, if_neg (fun e => hF _ (List.mem_cons_self ..) e.symm)]
  refine h.fin v v0 v1 hv (fun f hf => ?_)
  rcases List.mem_cons.1 hf with e9 | hf
  ·rw [e9]; exact hF { p with seg := p.seg ++ [e] } (List.mem_cons_self ..)
  ·exact hF f (List.mem_cons_of_mem _ hf)
 case un =>
  intro v v0 v1 hv
  show rd (s.next.set p.v.toNat (rd s.next p.v + 1)) v = _
  rw [rn v v0, if_neg (fun e => p2 (by rw [← e]; exact hv))]
  exact h.un v v0 v1 hv
 case ent =>
  intro j v b hj ht
  show rd s.ord v ≠ 0
  rcases (rt j hj.rng.1).1 ht with rfl | ht
  ·rcases he.two hj with ⟨h1, -⟩ | ⟨h1, -⟩ <;> rw [h1]
   ·exact p2
   ·exact ha
  ·exact h.ent j v b hj ht
 case part =>
  intro j j0 j1
  refine (rt j j0).trans ?_
  show j = e ∨ Tk s j ↔ j ∈ s.edges ++ [e] ∨ _
  rw [h.part j j0 j1, List.mem_append, List.mem_singleton]
  constructor
  ·rintro (h1 | h1 | h1)
   ·exact .inl (.inr h1)
   ·exact .inl (.inl h1)
   ·exact .inr h1
  ·rintro ((h1 | h1) | h1)
   ·exact .inr (.inl h1)
   ·exact .inl h1
   ·exact .inr (.inr h1)
 case nd =>
  show (s.edges ++ [e] ++ s.blocks.flatten).Nodup
  have h1 := h.nd
  rw [List.append_assoc, List.nodup_append] at *
  refine ⟨h1.1, ?_, ?_⟩
  ·rw [List.singleton_append, List.nodup_cons]
   refine ⟨fun hm => ?_, h1.2.1⟩
   obtain ⟨b, hb, hm⟩ := List.mem_flatten.1 hm
   exact hnm.2 b hb hm
  ·intro x hx y hy exy
   rw [List.singleton_append] at hy
   rcases List.mem_cons.1 hy with rfl | hy
   ·exact hnm.1 (exy ▸ hx)
   ·exact h1.2.2 x hx y hy exy
 case rng =>
  intro j hj
  have hj : j ∈ s.edges ++ [e] ++ s.blocks.flatten := hj
  rw [List.append_assoc, List.mem_append, List.singleton_append, List.mem_cons] at hj
  rcases hj with hj | rfl | hj
  ·exact h.rng j (List.mem_append_left _ hj)
  ·exact ⟨e0, e1⟩
  ·exact h.rng j (List.mem_append_right _ hj)
 case tree =>
  intro P x q R' eq
  cases P with
  | nil =>
   simp only [List.nil_append, List.cons.injEq] at eq
   obtain ⟨rfl, rfl⟩ := eq
   obtain ⟨h1, t, h2⟩ := h.tree [] p q R' rfl
   exact ⟨h1, t ++ [e], by show p.seg ++ [e] = _; rw [h2]; rfl⟩
  | cons y P =>
   simp only [List.cons_append, List.cons.injEq] at eq
   obtain ⟨-, rfl⟩ := eq
   exact h.tree (p :: P) x q R' rfl
 case root =>
  intro P f eq
  obtain ⟨P', rfl, eq2⟩ := not_last hg P f eq
  exact h.root (p :: P') f (by rw [eq2]; rfl)
 case low =>
  intro P f R' eq
  have key : ∀ f ∈ R, rd (s.low.set p.v.toNat (if rd s.ord a < rd s.low p.v then rd s.ord a else rd s.low p.v)) f.v = rd s.low f.v := fun f hf => by
   rw [rl _ _ (h.inF f (List.mem_cons_of_mem _ hf)).1, if_neg (fun e => by have := hasc.1 f hf; rw [e] at this; omega)]
  cases P with
  | nil =>
   simp only [List.nil_append, List.cons.injEq] at eq
   obtain ⟨rfl, rfl⟩ := eq
   show rd (s.low.set p.v.toNat _) p.v ≤ rd s.ord p.v ∧ ∃ g ∈ _ :: R, rd s.ord g.v = rd (s.low.set p.v.toNat _) p.v
   rw [rl _ _ p0, if_pos rfl]
   obtain ⟨h1, g2, hg2, h2⟩ := h.low [] p R rfl
   split
   ·refine ⟨?_, g, List.mem_cons_of_mem _ hg, by rw [hga]⟩
    omega
   ·refine ⟨h1, ?_⟩
    rcases List.mem_cons.1 hg2 with rfl | hg2
    ·exact ⟨_, List.mem_cons_self .., h2⟩
    ·exact ⟨g2, List.mem_cons_of_mem _ hg2, h2⟩
  | cons y P =>
   simp only [List.cons_append, List.cons.injEq] at eq
   obtain ⟨-, rfl⟩ := eq
   show rd (s.low.set p.v.toNat _) f.v ≤ rd s.ord f.v ∧ ∃ g ∈ f :: R', rd s.ord g.v = rd (s.low.set p.v.toNat _) f.v
   rw [key f (by simp)]
   exact h.low (p :: P) f R' rfl
 case bl => exact h.bl
theorem IA.push (hR : Rt N E) (h : IA N E s (p :: R)) {e x : Int} (hlt : rd s.next p.v < ((arcsOf E p.v).length : Int)) (hea : (rd_T51 (arcsOf E p.v) (rd s.next p.v)) = ⟨x, e⟩) (he : At E e p.v x) (hu : ¬ Tk s e) (hx : rd s.ord x = 0) :
  IA N E { s with next := s.next.set p.v.toNat (rd s.next p.v + 1), taken := s.taken.set e.toNat true, edges := s.edges ++ [e], clock := s.clock + 1, ord := s.ord.set x.toNat (s.clock + 1), low := s.low.set x.toNat (s.clock + 1), stack := s.stack ++ [⟨x, e⟩] } (⟨x, e, [e]⟩ :: p :: R) := by
 obtain ⟨p0, p1, p2⟩ := h.inF p (List.mem_cons_self ..)
 obtain ⟨-, x0, x1⟩ := he.inn hR.ends
 obtain ⟨e0, e1⟩ := he.rng
 have rn : ∀ v, 0 ≤ v → rd (s.next.set p.v.toNat (rd s.next p.v + 1)) v = if v = p.v then rd s.next p.v + 1 else rd s.next v := fun v v0 => rd_set _ _ _ _ p0 (by rw [h.ln]; exact p1) v0
 have ro : ∀ v, 0 ≤ v → rd (s.ord.set x.toNat (s.clock + 1)) v = if v = x then s.clock + 1 else rd s.ord v := fun v v0 => rd_set _ _ _ _ x0 (by rw [h.lo]; exact x1) v0
 have rl : ∀ v, 0 ≤ v → rd (s.low.set x.toNat (s.clock + 1)) v = if v = x then s.clock + 1 else rd s.low v := fun v v0 => rd_set _ _ _ _ x0 (by rw [h.ll]; exact x1) v0
 have rt := rdb_tk h e0 e1
 have hp := h.nx p.v p0 p1
 have c0 := h.c0
 have fx : ∀ f ∈ p :: R, f.v ≠ x := fun f hf ex => (h.inF f hf).2.2 (by rw [ex]; exact hx)
 have rof : ∀ f ∈ p :: R, rd (s.ord.set x.toNat (s.clock + 1)) f.v = rd s.ord f.v := fun f hf => by rw [ro _ (h.inF f hf).1, if_neg (fx f hf)]
 have rlf : ∀ f ∈ p :: R, rd (s.low.set x.toNat (s.clock + 1)) f.v = rd s.low f.v := fun f hf => by rw [rl _ (h.inF f hf).1, if_neg (fx f hf)]
 have hnm : e ∉ s.edges ∧ ∀ b ∈ s.blocks, e ∉ b := by
  constructor
  ·intro hm; exact hu ((h.part e e0 e1).2 (.inl hm))
  ·intro b hb hm; exact hu ((h.part e e0 e1).2 (.inr ⟨b, hb, hm⟩))
 constructor
 case lo => exact (List.length_set ..).trans h.lo
 case ll => exact (List.length_set ..).trans h.ll
 case ln => exact (List.length_set ..).trans h.ln
 case lt => exact (List.length_set ..).trans h.lt
 case lc => exact h.lc
 case stk => show s.stack ++ [⟨x, e⟩] = _; rw [h.stk, stOf_cons _ (p :: R)]; rfl
 case edg => show s.edges ++ [e] = _; rw [h.edg, edOf_cons _ (p :: R)]
 case clk =>
  show s.clock + 1 + ((s.ord.set x.toNat (s.clock + 1)).count 0 : Int) = N
  have h1 := count_set 0 (s.clock + 1) (by omega) s.ord x.toNat (by rw [h.lo]; omega) (by rw [Int.toNat_of_nonneg x0]; exact hx)
  have h2 := h.clk
  omega
 case c0 => show 0 ≤ s.clock + 1; omega
 case ordr =>
  intro v v0 v1
  show 0 ≤ rd (s.ord.set x.toNat (s.clock + 1)) v ∧ rd (s.ord.set x.toNat (s.clock + 1)) v ≤ s.clock + 1
  rw [ro v v0]
  have := h.ordr v v0 v1
  split <;> omega
 case ordi =>
  intro u v u0 u1 v0 v1 he hn
  have he : rd (s.ord.set x.toNat (s.clock + 1)) u = rd (s.ord.set x.toNat (s.clock + 1)) v := he
  have hn : rd (s.ord.set x.toNat (s.clock + 1)) u ≠ 0 := hn
  rw [ro u u0] at he hn
  rw [ro v v0] at he
  have h1 := h.ordr u u0 u1
  have h2 := h.ordr v v0 v1
  by_cases a : u = x
  ·rw [if_pos a] at he
   by_cases b : v = x
   ·rw [a, b]
   ·rw [if_neg b] at he; omega
  ·rw [if_neg a] at he hn
   by_cases b : v = x
   ·rw [if_pos b] at he; omega
   ·rw [if_neg b] at he; exact h.ordi u v u0 u1 v0 v1 he hn
 case inF =>
  intro f hf
  show 0 ≤ f.v ∧ f.v < (N : Int) ∧ rd (s.ord.set x.toNat (s.clock + 1)) f.v ≠ 0
  rcases List.mem_cons.1 hf with rfl | hf
  ·exact ⟨x0, x1, by rw [ro _ x0, if_pos rfl]; omega⟩
  ·rw [rof f hf]; exact h.inF f hf
 case asc =>
  refine List.pairwise_cons.2 ⟨fun f hf => ?_, ?_⟩
  ·show rd (s.ord.set x.toNat (s.clock + 1)) f.v < rd (s.ord.set x.toNat (s.clock + 1)) x
   rw [rof f hf, ro x x0, if_pos rfl]
   have := h.ordr f.v (h.inF f hf).1 (h.inF f hf).2.1
   omega
  ·refine h.asc.imp_of_mem (fun {a b} ha hb hab => ?_)
   show rd (s.ord.set x.toNat (s.clock + 1)) b.v < rd (s.ord.set x.toNat (s.clock + 1)) a.v
   rw [rof a ha, rof b hb]; exact hab
 case nx =>
  intro v v0 v1
  show 0 ≤ rd (s.next.set p.v.toNat (rd s.next p.v + 1)) v ∧ rd (s.next.set p.v.toNat (rd s.next p.v + 1)) v ≤ _ ∧ ∀ i : Nat, (i : Int) < rd (s.next.set p.v.toNat (rd s.next p.v + 1)) v → rdOf false (s.taken.set e.toNat true) _ = true
  rw [rn v v0]
  have htk : ∀ i : Nat, i < (arcsOf E v).length → Tk s (rd_T51 (arcsOf E v) i).f1 → rdOf false (s.taken.set e.toNat true) (rd_T51 (arcsOf E v) i).f1 = true := fun i hi ht =>
   (rt _ (arc_at.1 (rd51_mem _ _ (by omega) (by omega))).rng.1).2 (.inr ht)
  by_cases ev : v = p.v
  ·rw [if_pos ev]
   subst ev
   refine ⟨by omega, by omega, fun i hi => ?_⟩
   by_cases hi2 : (i : Int) < rd s.next p.v
   ·exact htk i (by omega) (hp.2.2 i hi2)
   ·have e2 : (i : Int) = rd s.next p.v := by omega
    rw [e2, hea]
    exact (rt e e0).2 (.inl rfl)
  ·rw [if_neg ev]
   have h1 := h.nx v v0 v1
   exact ⟨h1.1, h1.2.1, fun i hi => htk i (by omega) (h1.2.2 i hi)⟩
 case fin =>
  intro v v0 v1 hv hF
  have hv : rd (s.ord.set x.toNat (s.clock + 1)) v ≠ 0 := hv
  have hvx : v ≠ x := fun e => hF ⟨x, _, _⟩ (List.mem_cons_self ..) e.symm
  rw [ro v v0, if_neg hvx] at hv
  show rd (s.next.set p.v.toNat (rd s.next p.v + 1)) v = _
  rw [rn v v0, if_neg (fun e => hF p (by simp) e.symm)]
  exact h.fin v v0 v1 hv (fun f hf => hF f (List.mem_cons_of_mem _ hf))
 case un =>
  intro v v0 v1 hv
  have hv : rd (s.ord.set x.toNat (s.clock + 1)) v = 0 := hv
  rw [ro v v0] at hv
  show rd (s.next.set p.v.toNat (rd s.next p.v + 1)) v = _
  split at hv
  ·omega
  ·rw [rn v v0, if_neg (fun e => p2 (by rw [← e]; exact hv))]
   exact h.un v v0 v1 hv
 case ent =>
  intro j v b hj ht
  show rd (s.ord.set x.toNat (s.clock + 1)) v ≠ 0
  have v0 := (hj.inn hR.ends).1.1
  rw [ro v v0]
  split
  ·omega
  ·rename_i hvx
   rcases (rt j hj.rng.1).1 ht with rfl | ht
   ·rcases he.two hj with ⟨h1, -⟩ | ⟨h1, -⟩
    ·rw [h1]; exact p2
    ·exact absurd h1 hvx
   ·exact h.ent j v b hj ht
 case part =>
  intro j j0 j1
  refine (rt j j0).trans ?_
  show j = e ∨ Tk s j ↔ j ∈ s.edges ++ [e] ∨ _
  rw [h.part j j0 j1, List.mem_append, List.mem_singleton]
  constructor
  ·rintro (h1 | h1 | h1)
   ·exact .inl (.inr h1)
   ·exact .inl (.inl h1)
   ·exact .inr h1
  ·rintro ((h1 | h1) | h1)
   ·exact .inr (.inl h1)
   ·exact .inl h1
   ·exact .inr (.inr h1)
 case nd =>
  show (s.edges ++ [e] ++ s.blocks.flatten).Nodup
  have h1 := h.nd
  rw [List.append_assoc, List.nodup_append] at *
  refine ⟨h1.1, ?_, ?_⟩
  ·rw [List.singleton_append, List.nodup_cons]
   refine ⟨fun hm => ?_, h1.2.1⟩
   obtain ⟨b, hb, hm⟩ := List.mem_flatten.1 hm
   exact hnm.2 b hb hm
  ·intro y hy z hz exy
   rw [List.singleton_append] at hz
   rcases List.mem_cons.1 hz with rfl | hz
   ·exact hnm.1 (exy ▸ hy)
   ·exact h1.2.2 y hy z hz exy
 case rng =>
  intro j hj
  have hj : j ∈ s.edges ++ [e] ++ s.blocks.flatten := hj
  rw [List.append_assoc, List.mem_append, List.singleton_append, List.mem_cons] at hj
  rcases hj with hj | rfl | hj
  ·exact h.rng j (List.mem_append_left _ hj)
  ·exact ⟨e0, e1⟩
  ·exact h.rng j (List.mem_append_right _ hj)
 case tree =>
  intro P y q R' eq
  cases P with
  | nil =>
   simp only [List.nil_append, List.cons.injEq] at eq
   obtain ⟨rfl, rfl, rfl⟩ := eq
   exact ⟨he, [], rfl⟩
  | cons z P =>
   simp only [List.cons_append, List.cons.injEq] at eq
   exact h.tree P y q R' eq.2
 case root =>
  intro P f eq
  cases P with
  | nil => simp at eq
  | cons z P =>
   simp only [List.cons_append, List.cons.injEq] at eq
   exact h.root P f eq.2
 case low =>
  intro P f R' eq
  show rd (s.low.set x.toNat (s.clock + 1)) f.v ≤ rd (s.ord.set x.toNat (s.clock + 1)) f.v ∧ ∃ g ∈ f :: R', rd (s.ord.set x.toNat (s.clock + 1)) g.v = rd (s.low.set x.toNat (s.clock + 1)) f.v
  cases P with
  | nil =>
   simp only [List.nil_append, List.cons.injEq] at eq
   obtain ⟨rfl, rfl⟩ := eq
   rw [rl _ x0, ro _ x0, if_pos rfl, if_pos rfl]
   exact ⟨Int.le_refl _, _, List.mem_cons_self .., by rw [ro _ x0, if_pos rfl]⟩
  | cons z P =>
   simp only [List.cons_append, List.cons.injEq] at eq
   obtain ⟨h1, g, hg, h2⟩ := h.low P f R' eq.2
   have hf : f ∈ p :: R := by rw [eq.2]; simp
   have hg2 : g ∈ p :: R := by rw [eq.2]; exact List.mem_append_right _ hg
   rw [rlf f hf, rof f hf]
   exact ⟨h1, g, hg, by rw [rof g hg2]; exact h2⟩
 case bl => exact h.bl
theorem IA.begin (hR : Rt N E) (h : IA N E s []) {r : Int} (r0 : 0 ≤ r) (r1 : r < (N : Int)) (hr : rd s.ord r = 0) :
  IA N E { s with clock := s.clock + 1, ord := s.ord.set r.toNat (s.clock + 1), low := s.low.set r.toNat (s.clock + 1), stack := s.stack ++ [⟨r, -1⟩] } [⟨r, -1, []⟩] := by
 have ro : ∀ v, 0 ≤ v → rd (s.ord.set r.toNat (s.clock + 1)) v = if v = r then s.clock + 1 else rd s.ord v := fun v v0 => rd_set _ _ _ _ r0 (by rw [h.lo]; exact r1) v0
 have rl : ∀ v, 0 ≤ v → rd (s.low.set r.toNat (s.clock + 1)) v = if v = r then s.clock + 1 else rd s.low v := fun v v0 => rd_set _ _ _ _ r0 (by rw [h.ll]; exact r1) v0
 have c0 := h.c0
 constructor
 case lo => exact (List.length_set ..).trans h.lo
 case ll => exact (List.length_set ..).trans h.ll
 case ln => exact h.ln
 case lt => exact h.lt
 case lc => exact h.lc
 case stk => show s.stack ++ [⟨r, -1⟩] = _; rw [h.stk]; rfl
 case edg => show s.edges = _; rw [h.edg]; rfl
 case clk =>
  show s.clock + 1 + ((s.ord.set r.toNat (s.clock + 1)).count 0 : Int) = N
  have h1 := count_set 0 (s.clock + 1) (by omega) s.ord r.toNat (by rw [h.lo]; omega) (by rw [Int.toNat_of_nonneg r0]; exact hr)
  have h2 := h.clk
  omega
 case c0 => show 0 ≤ s.clock + 1; omega
 case ordr =>
  intro v v0 v1
  show 0 ≤ rd (s.ord.set r.toNat (s.clock + 1)) v ∧ rd (s.ord.set r.toNat (s.clock + 1)) v ≤ s.clock + 1
  rw [ro v v0]
  have := h.ordr v v0 v1
  split <;> omega
 case ordi =>
  intro u v u0 u1 v0 v1 he hn
  have he : rd (s.ord.set r.toNat (s.clock + 1)) u = rd (s.ord.set r.toNat (s.clock + 1)) v := he
  have hn : rd (s.ord.set r.toNat (s.clock + 1)) u ≠ 0 := hn
  rw [ro u u0] at he hn
  rw [ro v v0] at he
  have h1 := h.ordr u u0 u1
  have h2 := h.ordr v v0 v1
  by_cases a : u = r
  ·rw [if_pos a] at he
   by_cases b : v = r
   ·rw [a, b]
   ·rw [if_neg b] at he; omega
  ·rw [if_neg a] at he hn
   by_cases b : v = r
   ·rw [if_pos b] at he; omega
   ·rw [if_neg b] at he; exact h.ordi u v u0 u1 v0 v1 he hn
 case inF =>
  intro f hf
  rw [List.mem_singleton] at hf
  subst hf
  exact ⟨r0, r1, by show rd (s.ord.set r.toNat (s.clock + 1)) r ≠ 0; rw [ro _ r0, if_pos rfl]; omega⟩
 case asc => exact List.pairwise_singleton _ _
 case nx => exact h.nx
 case fin =>
  intro v v0 v1 hv hF
  have hv : rd (s.ord.set r.toNat (s.clock + 1)) v ≠ 0 := hv
  rw [ro v v0, if_neg (fun e => hF ⟨r, _, _⟩ (List.mem_cons_self ..) e.symm)] at hv
  exact h.fin v v0 v1 hv (fun f hf => by cases hf)
 case un =>
  intro v v0 v1 hv
  have hv : rd (s.ord.set r.toNat (s.clock + 1)) v = 0 := hv
  rw [ro v v0] at hv
  split at hv
  ·omega
  ·exact h.un v v0 v1 hv
 case ent =>
  intro j v b hj ht
  show rd (s.ord.set r.toNat (s.clock + 1)) v ≠ 0
  have hv := (hj.inn hR.ends).1.1
  rw [ro v hv]
  split
  ·omega
  ·exact h.ent j v b hj ht
 case part => exact h.part
 case nd => exact h.nd
 case rng => exact h.rng
 case tree =>
  intro P y q R' eq
  have := congrArg List.length eq
  simp at this
  omega
 case root =>
  intro P f eq
  cases P with
  | nil => simp at eq; rw [← eq]
  | cons z P => simp at eq
 case low =>
  intro P f R' eq
  cases P with
  | nil =>
   simp only [List.nil_append, List.cons.injEq] at eq
   obtain ⟨rfl, rfl⟩ := eq
   show rd (s.low.set r.toNat (s.clock + 1)) r ≤ rd (s.ord.set r.toNat (s.clock + 1)) r ∧ ∃ g : Fr, g ∈ _ ∧ rd (s.ord.set r.toNat (s.clock + 1)) g.v = rd (s.low.set r.toNat (s.clock + 1)) r
   rw [rl _ r0, ro _ r0, if_pos rfl, if_pos rfl]
   exact ⟨Int.le_refl _, _, List.mem_cons_self .., by rw [ro _ r0, if_pos rfl]⟩
  | cons z P => simp at eq
 case bl => exact h.bl
end
def lowM (s : Wk) (c p : Fr) : List Int := s.low.set p.v.toNat (if rd s.low c.v < rd s.low p.v then rd s.low c.v else rd s.low p.v)
def hasMore (E : List S43) (s : Wk) (p : Int) : Bool := ((arcsOf E p).drop (rd s.next p).toNat).any fun a => !rdOf false s.taken a.f1
def stM (s : Wk) (c p : Fr) (R : List Fr) : Wk := { s with stack := stOf (p :: R), low := lowM s c p }
def cutB (E : List S43) (s : Wk) (p : Fr) (R : List Fr) : Bool := decide (1 < (p :: R).length) || hasMore E s p.v
def stE (E : List S43) (s : Wk) (c p : Fr) (R : List Fr) : Wk := { s with stack := stOf (p :: R), low := lowM s c p, edges := edOf (p :: R), blocks := s.blocks ++ [wkSorted c.seg], cut := if cutB E s p R = true then s.cut.set p.v.toNat true else s.cut }
def pM (c p : Fr) : Fr := { p with seg := p.seg ++ c.seg }
section
variable {N : Nat} {E : List S43} {s : Wk} {F R : List Fr} {p c : Fr}
theorem IA.endRoot (h : IA N E s [c]) (hn : rd s.next c.v = ((arcsOf E c.v).length : Int)) : IA N E { s with stack := s.stack.take 0 } [] := by
 have hs := h.root [] c rfl
 exact { h with
  stk := by show s.stack.take 0 = stOf []; rw [List.take_zero]; rfl
  edg := by show s.edges = _; rw [h.edg]; simp [edOf, hs]
  inF := fun f hf => by cases hf
  asc := List.Pairwise.nil
  fin := fun v v0 v1 hv _ => by
   by_cases e : c.v = v
   ·rw [← e]; exact hn
   ·exact h.fin v v0 v1 hv (fun f hf => by rw [List.mem_singleton] at hf; rw [hf]; exact e)
  tree := fun P a b R' eq => by simp at eq
  root := fun P f eq => by simp at eq
  low := fun P f R' eq => by simp at eq }
theorem lowM_rd (h : IA N E s (c :: p :: R)) (v : Int) (v0 : 0 ≤ v) : rd (lowM s c p) v = if v = p.v then (if rd s.low c.v < rd s.low p.v then rd s.low c.v else rd s.low p.v) else rd s.low v := by
 obtain ⟨p0, p1, p2⟩ := h.inF p (by simp)
 exact rd_set _ _ _ _ p0 (by rw [h.ll]; exact p1) v0
theorem IA.lowOk (h : IA N E s (c :: p :: R)) (q : Fr) (hq : q.v = p.v) (he : q.seg = p.seg ∨ rd s.low c.v < rd s.ord p.v ∨ True) : ∀ P f R', q :: R = P ++ f :: R' → rd (lowM s c p) f.v ≤ rd s.ord f.v ∧ ∃ g ∈ f :: R', rd s.ord g.v = rd (lowM s c p) f.v := by
 obtain ⟨p0, p1, p2⟩ := h.inF p (by simp)
 have hasc := List.pairwise_cons.1 h.asc
 have hasc2 := List.pairwise_cons.1 hasc.2
 intro P f R' eq
 cases P with
 | nil =>
  simp only [List.nil_append, List.cons.injEq] at eq
  obtain ⟨rfl, rfl⟩ := eq
  rw [lowM_rd h _ (by rw [hq]; exact p0), if_pos hq, hq]
  obtain ⟨h1, g1, hg1, h2⟩ := h.low [c] p R rfl
  obtain ⟨h3, g2, hg2, h4⟩ := h.low [] c (p :: R) rfl
  split
  ·rename_i hlt
   refine ⟨by omega, ?_⟩
   rcases List.mem_cons.1 hg2 with rfl | hg2
   ·have := hasc.1 p (by simp)
    omega
   ·rcases List.mem_cons.1 hg2 with rfl | hg2
    ·exact ⟨q, List.mem_cons_self .., by rw [hq]; exact h4⟩
    ·exact ⟨g2, List.mem_cons_of_mem _ hg2, h4⟩
  ·refine ⟨h1, ?_⟩
   rcases List.mem_cons.1 hg1 with rfl | hg1
   ·exact ⟨q, List.mem_cons_self .., by rw [hq]; exact h2⟩
   ·exact ⟨g1, List.mem_cons_of_mem _ hg1, h2⟩
 | cons y P =>
  simp only [List.cons_append, List.cons.injEq] at eq
  obtain ⟨-, rfl⟩ := eq
  obtain ⟨f0, f1, f2⟩ := h.inF f (by simp)
  have hlt := hasc2.1 f (by simp)
  rw [lowM_rd h _ f0, if_neg (fun e => by rw [e] at hlt; omega)]
  exact h.low (c :: p :: P) f R' rfl
theorem IA.finPop (h : IA N E s (c :: F)) (hn : rd s.next c.v = ((arcsOf E c.v).length : Int)) : ∀ v, 0 ≤ v → v < (N : Int) → rd s.ord v ≠ 0 → (∀ f ∈ F, f.v ≠ v) → rd s.next v = ((arcsOf E v).length : Int) := by
 intro v v0 v1 hv hF
 by_cases e : c.v = v
 ·rw [← e]; exact hn
 ·refine h.fin v v0 v1 hv (fun f hf => ?_)
  rcases List.mem_cons.1 hf with rfl | hf
  ·exact e
  ·exact hF f hf
theorem IA.merge (h : IA N E s (c :: p :: R)) (hn : rd s.next c.v = ((arcsOf E c.v).length : Int)) (hl : rd s.low c.v < rd s.ord p.v) : IA N E (stM s c p R) (pM c p :: R) := by
 obtain ⟨p0, p1, p2⟩ := h.inF p (by simp)
 have hasc := List.pairwise_cons.1 h.asc
 have hasc2 := List.pairwise_cons.1 hasc.2
 have hRne : ∃ g, g ∈ R := by
  obtain ⟨-, g, hg, h2⟩ := h.low [] c (p :: R) rfl
  rcases List.mem_cons.1 hg with rfl | hg
  ·have := hasc.1 p (by simp); omega
  ·rcases List.mem_cons.1 hg with rfl | hg
   ·omega
   ·exact ⟨g, hg⟩
 obtain ⟨g, hg⟩ := hRne
 exact { h with
  ll := (List.length_set ..).trans h.ll
  stk := rfl
  edg := by show s.edges = _; rw [h.edg, edOf_cons, edOf_cons, edOf_cons, List.append_assoc]; rfl
  inF := fun f hf => by
   rcases List.mem_cons.1 hf with rfl | hf
   ·exact ⟨p0, p1, p2⟩
   ·exact h.inF f (by simp [hf])
  asc := List.pairwise_cons.2 ⟨hasc2.1, hasc2.2⟩
  fin := fun v v0 v1 hv hF => h.finPop hn v v0 v1 hv (fun f hf => by
   rcases List.mem_cons.1 hf with rfl | hf
   ·exact hF (pM c f) (List.mem_cons_self ..)
   ·exact hF f (List.mem_cons_of_mem _ hf))
  tree := fun P x q R' eq => by
   cases P with
   | nil =>
    simp only [List.nil_append, List.cons.injEq] at eq
    obtain ⟨rfl, rfl⟩ := eq
    obtain ⟨h1, t, h2⟩ := h.tree [c] p q R' rfl
    exact ⟨h1, t ++ c.seg, by show p.seg ++ c.seg = _; rw [h2]; rfl⟩
   | cons y P =>
    simp only [List.cons_append, List.cons.injEq] at eq
    obtain ⟨-, rfl⟩ := eq
    exact h.tree (c :: p :: P) x q R' rfl
  root := fun P f eq => by
   obtain ⟨P', rfl, eq2⟩ := not_last hg P f eq
   exact h.root (c :: p :: P') f (by rw [eq2]; rfl)
  low := h.lowOk (pM c p) rfl (.inr (.inr trivial)) }
theorem sorted_up {l : List Int} (h : l.Nodup) : (wkSorted l).Pairwise (· < ·) := by
 have h1 : (wkSorted l).Pairwise (fun a b => a ≤ b) := isortBy_sorted (fun x => x) l
 have h2 : (wkSorted l).Nodup := (isortBy_perm _ l).nodup_iff.2 h
 exact (h1.and h2).imp (fun {a b} ⟨h3, h4⟩ => by omega)
theorem mem_sorted {l : List Int} {j : Int} : j ∈ wkSorted l ↔ j ∈ l := (isortBy_perm _ l).mem_iff
theorem IA.emit (h : IA N E s (c :: p :: R)) (hn : rd s.next c.v = ((arcsOf E c.v).length : Int)) : IA N E (stE E s c p R) (p :: R) := by
 have hasc := List.pairwise_cons.1 h.asc
 have he : s.edges = edOf (p :: R) ++ c.seg := by rw [h.edg, edOf_cons]
 have hnd := h.nd
 rw [he] at hnd
 have hseg : c.seg.Nodup := (List.nodup_append.1 (List.nodup_append.1 hnd).1).2.1
 have hperm : (edOf (p :: R) ++ (s.blocks ++ [wkSorted c.seg]).flatten).Perm (edOf (p :: R) ++ c.seg ++ s.blocks.flatten) := by
  rw [List.flatten_append, List.append_assoc]
  refine List.Perm.append_left _ ?_
  rw [List.flatten_cons, List.flatten_nil, List.append_nil]
  exact List.perm_append_comm.trans (List.Perm.append_right _ (isortBy_perm _ c.seg))
 exact { h with
  ll := (List.length_set ..).trans h.ll
  lc := by
   show (if cutB E s p R = true then s.cut.set p.v.toNat true else s.cut).length = N
   split
   ·exact (List.length_set ..).trans h.lc
   ·exact h.lc
  stk := rfl
  edg := rfl
  inF := fun f hf => h.inF f (List.mem_cons_of_mem _ hf)
  asc := hasc.2
  fin := h.finPop hn
  part := fun j j0 j1 => by
   show Tk s j ↔ j ∈ edOf (p :: R) ∨ ∃ b ∈ s.blocks ++ [wkSorted c.seg], j ∈ b
   rw [h.part j j0 j1, he, List.mem_append]
   constructor
   ·rintro ((h1 | h1) | ⟨b, hb, h1⟩)
    ·exact .inl h1
    ·exact .inr ⟨_, List.mem_append_right _ (List.mem_singleton.2 rfl), mem_sorted.2 h1⟩
    ·exact .inr ⟨b, List.mem_append_left _ hb, h1⟩
   ·rintro (h1 | ⟨b, hb, h1⟩)
    ·exact .inl (.inl h1)
    ·rcases List.mem_append.1 hb with hb | hb
     ·exact .inr ⟨b, hb, h1⟩
     ·rw [List.mem_singleton] at hb
      subst hb
      exact .inl (.inr (mem_sorted.1 h1))
  nd := hperm.nodup_iff.2 hnd
  rng := fun j hj => h.rng j (by rw [he]; exact hperm.mem_iff.1 hj)
  tree := fun P x q R' eq => h.tree (c :: P) x q R' (by rw [eq]; rfl)
  root := fun P f eq => h.root (c :: P) f (by rw [eq]; rfl)
  low := h.lowOk p rfl (.inl rfl)
  bl := fun b hb => by
   rcases List.mem_append.1 hb with hb | hb
   ·exact h.bl b hb
   ·rw [List.mem_singleton] at hb
    subst hb
    refine ⟨fun e => ?_, sorted_up hseg⟩
    obtain ⟨-, t, ht⟩ := h.tree [] c p R rfl
    have h1 : c.by_ ∈ wkSorted c.seg := mem_sorted.2 (by rw [ht]; exact List.mem_cons_self ..)
    rw [e] at h1
    cases h1 }
theorem off_eq (hR : Rt N E) (h : IA N E s (c :: p :: R)) (s2 : Wk) (h1 : s2.edges = s.edges) (h2 : s2.blocks = s.blocks) : wkOff s2 c.by_ = some { s2 with edges := edOf (p :: R), blocks := s2.blocks ++ [wkSorted c.seg] } := by
 have he : s2.edges = edOf (p :: R) ++ c.seg := by rw [h1, h.edg, edOf_cons]
 obtain ⟨-, t, ht⟩ := h.tree [] c p R rfl
 obtain ⟨l1, l2⟩ := h.elen hR
 have hnd := h.nd
 rw [h.edg, edOf_cons, ht] at hnd
 have hnm : c.by_ ∉ edOf (p :: R) := fun hm => (List.nodup_append.1 (List.nodup_append.1 hnd).1).2.2 _ hm _ (List.mem_cons_self ..) rfl
 have hi : Lib.idxOf s2.edges c.by_ = ((edOf (p :: R)).length : Nat) := by
  have h3 := Lib.idxOf_hit s2.edges s2.edges.length (edOf (p :: R)).length c.by_ (by rw [he, ht, List.length_append, zLc]; omega) (Nat.le_refl _)
   (by rw [he, ht, List.getD_eq_getElem?_getD, List.getElem?_append_right (Nat.le_refl _), Nat.sub_self]; rfl)
   (fun j hj e => hnm (by
    rw [he, List.getD_eq_getElem?_getD, List.getElem?_append_left hj, List.getElem?_eq_getElem hj] at e
    rw [← e]; exact List.getElem_mem hj))
  rwa [List.take_length] at h3
 have hlen : (edOf (p :: R)).length < s2.edges.length := by rw [he, ht, List.length_append, zLc]; omega
 unfold wkOff
 rw [hi, zTn, if_pos ⟨by omega, by omega, by rw [h1]; omega, by rw [h2]; omega⟩]
 congr 1
 rw [he, List.take_left, List.drop_left]
theorem more_eq (h : IA N E s F) (s3 : Wk) (h1 : s3.next = s.next) (h2 : s3.taken = s.taken) {v : Int} (v0 : 0 ≤ v) (v1 : v < (N : Int)) (hlt : rd s.next v < ((arcsOf E v).length : Int)) : wkMore (rowsA N (arcsOf E)) s3 v = some (hasMore E s v) := by
 have hx := h.nx v v0 v1
 have hall : ((arcsOf E v).all fun a => decide (0 ≤ a.f1 ∧ a.f1 < (s.taken.length : Int))) = true := by
  refine List.all_eq_true.2 fun a ha => ?_
  have := (arc_at.1 ha).rng
  exact decide_eq_true ⟨this.1, by rw [h.lt]; exact this.2⟩
 unfold wkMore hasMore
 rw [h1, h2, rowsA_len, rowsA_rd N _ _ v0 v1, if_pos ⟨v0, by rw [h.ln]; exact v1, v1, hx.1, hlt, hall⟩]
theorem leave_eq (hR : Rt N E) (h : IA N E s (c :: F)) : wkLeave wkOff (wkMore (rowsA N (arcsOf E))) (rowsA N (arcsOf E)) s =
  match F with
  | [] => some { s with stack := s.stack.take 0 }
  | p :: R => if rd s.ord p.v ≤ rd s.low c.v then some (stE E s c p R) else some (stM s c p R) := by
 have hl : s.stack.length = F.length + 1 := by rw [h.stk, stOf_len, zLc]
 unfold wkLeave
 rw [if_neg (by omega)]
 cases F with
 | nil => rw [if_pos (by rw [hl]; rfl)]
 | cons p R =>
  obtain ⟨p0, p1, p2⟩ := h.inF p (by simp)
  obtain ⟨c0, c1, c2⟩ := h.inF c (by simp)
  have hasc := List.pairwise_cons.1 h.asc
  have hcp : c.v ≠ p.v := fun e => by have := hasc.1 p (by simp); rw [e] at this; omega
  rw [if_neg (by rw [hl, zLc]; omega)]
  have e1 : s.stack.length - 1 = (p :: R).length := by omega
  rw [e1]
  dsimp only
  rw [h.stk, stOf_top, zLc, Nat.add_sub_cancel, stOf_sec]
  have hlm := lowM_rd h
  show (if 0 ≤ p.v ∧ p.v < (s.low.length : Int) ∧ p.v < (s.ord.length : Int) ∧ 0 ≤ c.v ∧ c.v < (s.low.length : Int) then _ else _) = _
  rw [if_pos ⟨p0, by rw [h.ll]; exact p1, by rw [h.lo]; exact p1, c0, by rw [h.ll]; exact c1⟩]
  have e2 : (stOf (c :: p :: R)).take (R.length + 1) = stOf (p :: R) := stOf_take c (p :: R)
  show wkTail wkOff _ _ (rd s.ord p.v) p.v (frS c) { s with stack := (stOf (c :: p :: R)).take (R.length + 1), low := lowM s c p } = _
  rw [e2]
  unfold wkTail
  have e3 : rd (lowM s c p) (frS c).f0 = rd s.low c.v := by
   show rd (lowM s c p) c.v = _
   rw [hlm _ c0, if_neg hcp]
  show (if rd s.ord p.v ≤ rd (lowM s c p) (frS c).f0 then _ else _) = _
  rw [e3]
  by_cases hle : rd s.ord p.v ≤ rd s.low c.v
  ·rw [if_pos hle, if_pos hle]
   show (wkOff _ c.by_).bind _ = _
   rw [off_eq hR h { s with stack := stOf (p :: R), low := lowM s c p } rfl rfl, zOb]
   unfold wkCut
   dsimp only
   rw [stOf_len]
   have hc : ∀ X : Wk, X.cut = s.cut → (if cutB E s p R = true then (if p.v < (X.cut.length : Int) then some { X with cut := X.cut.set p.v.toNat true } else none) else some X) = some { X with cut := if cutB E s p R = true then s.cut.set p.v.toNat true else s.cut } := by
    intro X hX
    by_cases hb : cutB E s p R = true
    ·rw [if_pos hb, if_pos hb, if_pos (by rw [hX, h.lc]; exact p1), hX]
    ·rw [if_neg hb, if_neg hb, ← hX]
   by_cases h1 : 1 < (p :: R).length
   ·rw [if_pos h1, zOb]
    have hb : cutB E s p R = true := by unfold cutB; rw [decide_eq_true h1]; rfl
    have := hc { s with stack := stOf (p :: R), low := lowM s c p, edges := edOf (p :: R), blocks := s.blocks ++ [wkSorted c.seg] } rfl
    rw [if_pos hb] at this
    rw [if_pos rfl]
    exact this
   ·have hx := h.nx p.v p0 p1
    rw [if_neg h1, if_pos ⟨by rw [h.ln]; exact p1, by rw [rowsA_len]; exact p1⟩, rowsA_rd N _ _ p0 p1]
    have hb : cutB E s p R = hasMore E s p.v := by unfold cutB; rw [decide_eq_false h1]; rfl
    by_cases h2 : rd s.next p.v < ((arcsOf E p.v).length : Int)
    ·rw [if_pos h2, more_eq h { s with stack := stOf (p :: R), low := lowM s c p, edges := edOf (p :: R), blocks := s.blocks ++ [wkSorted c.seg] } rfl rfl p0 p1 h2, zOb, ← hb]
     exact hc { s with stack := stOf (p :: R), low := lowM s c p, edges := edOf (p :: R), blocks := s.blocks ++ [wkSorted c.seg] } rfl
    ·have h3 : cutB E s p R = false := by
      rw [hb]; unfold hasMore
      rw [List.drop_of_length_le (by omega)]; rfl
     rw [if_neg h2, zOb]
     have := hc { s with stack := stOf (p :: R), low := lowM s c p, edges := edOf (p :: R), blocks := s.blocks ++ [wkSorted c.seg] } rfl
     rw [h3, if_neg Bool.false_ne_true] at this
     rw [if_neg Bool.false_ne_true, this]
     unfold stE
     rw [h3]
  ·rw [if_neg hle, if_neg hle]
   rfl
end
-- WALKED
def wkStart (n m : Nat) : Wk := ⟨List.replicate n 0, List.replicate n 0, List.replicate n 0, [], List.replicate m false, List.replicate n false, [], 0, []⟩
def wkAll (run : Wk → Int → Option Wk) : Nat → Nat → Wk → Option Wk
 | 0, _, s => some s
 | d + 1, v, s => if (v : Int) < (s.ord.length : Int) then (if rd s.ord (v : Int) = 0 then (run s (v : Int)).bind (wkAll run d (v + 1)) else wkAll run d (v + 1) s) else none
def wkWalked (k : Nat) (n : Int) (E : List S43) : Option Wk :=
 if 0 ≤ n ∧ n ≤ 35184372088832 ∧ E.length ≤ 35184372088832 then (parts_arcs.f k n E).bind fun near => (wkAll (wkRun (wkLeave wkOff (wkMore near) near) near k) n.toNat 0 (wkStart n.toNat E.length)).bind wkSorts else none
def wkWalked.T2 : Bool × List (List Nat × List Nat) := (true, [([], []), ([0], [0]), ([], []), ([2, 2], [2]), ([], []), ([4, 4], [4]), ([], []), ([6, 6], [6]), ([], []), ([8, 8], [8]), ([], []), ([10, 10], [10]), ([1, 3, 5, 7, 9, 11], [1, 3, 5, 7, 9, 11]), ([12], [12]), ([13, 1, 0, 1, 2, 3, 4, 5, 6, 7, 8, 9, 10, 11, 12, 13], [13])])
def wkWalked.B2 : List Nat := [0, 1, 0, 4, 0, 16, 0, 64, 0, 256, 0, 1024, 4095, 8191, 16383]
theorem wkWalked.tab2 : rtab .any (opsOf Try.f31 2) = wkWalked.T2 := by kernel_rfl
theorem wkWalked.bits2 : waitsOk wkWalked.T2.2 wkWalked.B2 = true := by kernel_rfl
theorem wkWalked.calls (k : Nat) (n : Int) (A0 : Option Addr) (c0 : Nat) (E : List S43) (s' : Wk) (w : World) (hr0 : Kd.C k43 w A0 E.length E) (hc0 : E.length ≤ c0) (h : wkWalked k n E = some s') :
  Calls Try.prog 31 #[.agg #[.int .i64 n, .slice A0 E.length c0]] w fun e w' => ∃ (gw : Nat) (vn : Value) (V : WkV) (w0 wn : World), e = .returned (.pointer (some ⟨gw, 0, none⟩)) ∧ WkW w0 wn w' gw vn V s' ∧ Below w.heap.size w w0 := by
 have hu24 := Try.underlying24
 have hu55 := Try.underlying55
 have HR := zMk hr0
 have HC := zMk hc0
 unfold wkWalked at h
 by_cases hn : 0 ≤ n ∧ n ≤ 35184372088832 ∧ E.length ≤ 35184372088832
 rotate_left
 ·rw [if_neg hn] at h; cases h
 rw [if_pos hn] at h
 obtain ⟨nn, rfl⟩ : ∃ nn : Nat, n = (nn : Int) := ⟨n.toNat, by omega⟩
 rw [zTn] at h
 obtain ⟨near, hN, h⟩ := Option.bind_eq_some_iff.1 h
 obtain ⟨sr, hA, h⟩ := Option.bind_eq_some_iff.1 h
 have HN := zMk hN
 have HA := zMk hA
 have HZ := zMk h
 have HNN := zMk (show nn ≤ 35184372088832 by omega)
 have HEL := zMk hn.2.2
 clear hr0 hc0 h hn hN hA
 go_enter Try.func31, Try.ntmps31
 go_upto_region 1 with (fail)
 have BM0 := heap_alloc_new w (.cells #[.int .i64 (nn : Int), .slice A0 E.length c0] 24)
 have HB10 := zBd (zBa (Below.refl w.heap.size w) (.cells #[.int .i64 (nn : Int), .slice A0 E.length c0] 24))
 generalize w.alloc (.cells #[.int .i64 (nn : Int), .slice A0 E.length c0] 24) = w0 at BM0 HB10 ⊢
 obtain ⟨gb, hgb⟩ : ∃ gb, gb = w.heap.size := ⟨_, rfl⟩
 rw [← hgb] at BM0 ⊢
 clear hgb
 have BM := zMk (zKd BM0)
 have HB1 := zMk HB10
 clear BM0 HB10
 refine start_ (n:=7) (S:=fun w' => w'.cell? ⟨gb, 0, none⟩ = some (.int .i64 (nn : Int)) ∧ w'.cell? ⟨gb, 1, none⟩ = some (.slice A0 E.length c0)) (ds:=[]) #[false,false,false,false,false,false,false] (by kernel_rfl) rfl rfl ⟨(zKc BM.out 0).trans rfl, (zKc BM.out 1).trans rfl⟩ (fun hHeld => ?_)
 generalize w0.drew = w1 at BM HB1 hHeld ⊢
 refine pure_ (i:=0) (N:=some 8) (v:=?_) (a' := ?_) #[true,false,false,false,false,false,false] rfl rfl (by kernel_rfl) (fun _ _ _ h => h) (Or.inl ⟨by rfl, ?_⟩) ?_ ?_
 rotate_left
 ·intro w'
  go_simp
  with_reducible rfl
 rotate_left
 ·simp only [Act.put, zSa, zSb, zSc, i64_w, i32_w]
  rfl
 refine pure_ (i:=2) (N:=some 10) (v:=?_) (a' := ?_) #[true,false,true,false,false,false,false] rfl rfl (by kernel_rfl) (fun _ _ _ h => h) (Or.inl ⟨by rfl, ?_⟩) ?_ ?_
 rotate_left
 ·intro w'
  go_simp
  with_reducible rfl
 rotate_left
 ·simp only [Act.put, zSa, zSb, zSc, i64_w, i32_w]
  rfl
 refine take_ (i:=1) (N:=some 9) (v:=?_) (a' := ?_) #[true,true,true,false,false,false,false] rfl rfl (by kernel_rfl) (fun _ _ _ h => h) (Or.inl ⟨by rfl, ?_⟩) hHeld ?_ ?_
 rotate_left
 ·rintro w' ⟨s0, s1⟩
  go_simp
  with_reducible rfl
 rotate_left
 ·simp only [Act.put, zSa, zSb, zSc, i64_w, i32_w]
  rfl
 refine pure_ (i:=5) (N:=some 3) (v:=?_) (a' := ?_) #[true,true,true,false,false,true,false] rfl rfl (by kernel_rfl) (fun _ _ _ h => h) (Or.inl ⟨by rfl, ?_⟩) ?_ ?_
 rotate_left
 ·intro w'
  go_simp
  with_reducible rfl
 rotate_left
 ·simp only [Act.put, zSa, zSb, zSc, i64_w, i32_w]
  rfl
 refine take_ (i:=3) (N:=some 11) (v:=?_) (a' := ?_) #[true,true,true,true,false,true,false] rfl rfl (by kernel_rfl) (fun _ _ _ h => h) (Or.inl ⟨by rfl, ?_⟩) hHeld ?_ ?_
 rotate_left
 ·rintro w' ⟨s0, s1⟩
  go_simp
  with_reducible rfl
 rotate_left
 ·simp only [Act.put, zSa, zSb, zSc, i64_w, i32_w]
  rfl
 refine pure_ (i:=4) (N:=some 12) (v:=?_) (a' := ?_) #[true,true,true,true,true,true,false] rfl rfl (by kernel_rfl) (fun _ _ _ h => h) (Or.inl ⟨by rfl, ?_⟩) ?_ ?_
 rotate_left
 ·intro w'
  go_simp
  with_reducible rfl
 rotate_left
 ·simp only [Act.put, zSa, zSb, zSc, i64_w, i32_w]
  rfl
 refine pure_ (i:=6) (N:=some 4) (v:=?_) (a' := ?_) #[true,true,true,true,true,true,true] rfl rfl (by kernel_rfl) (fun _ _ _ h => h) (Or.inl ⟨by rfl, ?_⟩) ?_ ?_
 rotate_left
 ·intro w'
  go_simp
  with_reducible rfl
 rotate_left
 ·simp only [Act.put, zSa, zSb, zSc, i64_w, i32_w]
  rfl
 refine done_ (by kernel_rfl) ?_
 replace BM := zMk (zKd BM.out)
 replace HB1 := zMk (zBd HB1.out)
 go_upto_region 2 with (fail)
 refine start_ (n:=15) (S:=fun w' => True) (ds:=[]) #[false,false,false,false,false,false,false,false,false,false,false,false,false,false,false] (by kernel_rfl) rfl rfl trivial (fun hHeld => ?_)
 refine with_tabW wkWalked.tab2 wkWalked.bits2 (fun HT_ HW_ => ?_)
 generalize w1.drew = w2 at BM HB1 hHeld ⊢
 clear hHeld
 have HBr := Below.refl w2.heap.size w2
 have h0l : ∀ k_, (Value.bool false).ownBlock = some k_ → k_ < w2.heap.size := fun k_ hk => by cases hk
 have h0d : ∀ k_, (Value.bool false).ownBlock = some k_ → some k_ ≠ (Value.bool false).ownBlock := fun k_ hk => by cases hk
 refine pure_ (i:=2) (N:=some 15) (v:=?_) (a' := ?_) #[false,false,true,false,false,false,false,false,false,false,false,false,false,false,false] rfl rfl (any_of HT_.out (by kernel_rfl)) (fun _ _ _ h => h) (Or.inl ⟨by rfl, ?_⟩) ?_ ?_
 rotate_left
 ·intro w'
  go_simp
  with_reducible rfl
 rotate_left
 ·simp only [Act.put, zSa, zSb, zSc, i64_w, i32_w]
  rfl
 refine pure_ (i:=4) (N:=some 17) (v:=?_) (a' := ?_) #[false,false,true,false,true,false,false,false,false,false,false,false,false,false,false] rfl rfl (any_of HT_.out (by kernel_rfl)) (fun _ _ _ h => h) (Or.inl ⟨by rfl, ?_⟩) ?_ ?_
 rotate_left
 ·intro w'
  go_simp
  with_reducible rfl
 rotate_left
 ·simp only [Act.put, zSa, zSb, zSc, i64_w, i32_w]
  rfl
 refine pure_ (i:=6) (N:=some 19) (v:=?_) (a' := ?_) #[false,false,true,false,true,false,true,false,false,false,false,false,false,false,false] rfl rfl (any_of HT_.out (by kernel_rfl)) (fun _ _ _ h => h) (Or.inl ⟨by rfl, ?_⟩) ?_ ?_
 rotate_left
 ·intro w'
  go_simp
  with_reducible rfl
 rotate_left
 ·simp only [Act.put, zSa, zSb, zSc, i64_w, i32_w]
  rfl
 refine pure_ (i:=8) (N:=some 21) (v:=?_) (a' := ?_) #[false,false,true,false,true,false,true,false,true,false,false,false,false,false,false] rfl rfl (any_of HT_.out (by kernel_rfl)) (fun _ _ _ h => h) (Or.inl ⟨by rfl, ?_⟩) ?_ ?_
 rotate_left
 ·intro w'
  go_simp
  with_reducible rfl
 rotate_left
 ·simp only [Act.put, zSa, zSb, zSc, i64_w, i32_w]
  rfl
 refine pure_ (i:=10) (N:=some 23) (v:=?_) (a' := ?_) #[false,false,true,false,true,false,true,false,true,false,true,false,false,false,false] rfl rfl (any_of HT_.out (by kernel_rfl)) (fun _ _ _ h => h) (Or.inl ⟨by rfl, ?_⟩) ?_ ?_
 rotate_left
 ·intro w'
  go_simp
  with_reducible rfl
 rotate_left
 ·simp only [Act.put, zSa, zSb, zSc, i64_w, i32_w]
  rfl
 refine inv_at [0, 1, 3, 5, 7, 9, 11, 12, 13, 14] (fun a0_ b a w' => ∃ (vA : Value) (va : Value) (vb : Value) (vc : Value) (vd : Value) (ve : Value) (gw : Nat) (m12_ : Value) (m13_ : Value) (m14_ : Value), a = putSel a0_ b [(0, 13, .agg #[.int .i64 (nn : Int), .slice A0 E.length c0]), (1, 14, vA), (3, 16, va), (5, 18, vb), (7, 20, vc), (9, 22, vd), (11, 24, ve), (12, 25, m12_), (13, 26, m13_), (14, 5, m14_)] ∧ (Below w2.heap.size w2 w') ∧ (b 1 = true → Kd.S (Kd.slice 51 k51) 49 w' w2.heap.size (fun _ => True) vA near) ∧ (b 3 = true → Kd.R wkI 3 w' w2.heap.size (fun _ => True) va (List.replicate nn 0)) ∧ (b 5 = true → Kd.R wkI 3 w' w2.heap.size (fun _ => True) vb (List.replicate nn 0)) ∧ (b 7 = true → Kd.R wkI 3 w' w2.heap.size (fun _ => True) vc (List.replicate nn 0)) ∧ (b 9 = true → Kd.R Kd.bool 4 w' w2.heap.size (fun _ => True) vd (List.replicate E.length false)) ∧ (b 11 = true → Kd.R Kd.bool 4 w' w2.heap.size (fun _ => True) ve (List.replicate nn false)) ∧ (∀ k_, va.ownBlock = some k_ → k_ < w'.heap.size) ∧ (∀ k_, vb.ownBlock = some k_ → k_ < w'.heap.size) ∧ (∀ k_, vc.ownBlock = some k_ → k_ < w'.heap.size) ∧ (∀ k_, vd.ownBlock = some k_ → k_ < w'.heap.size) ∧ (∀ k_, ve.ownBlock = some k_ → k_ < w'.heap.size) ∧ (∀ k_, va.ownBlock = some k_ → some k_ ≠ vb.ownBlock) ∧ (∀ k_, va.ownBlock = some k_ → some k_ ≠ vc.ownBlock) ∧ (∀ k_, vb.ownBlock = some k_ → some k_ ≠ vc.ownBlock) ∧ (∀ k_, vd.ownBlock = some k_ → some k_ ≠ ve.ownBlock) ∧ (b 13 = true → w'.heap[gw]? = some (.cells #[vA, va, vb, vc, .slice none 0 0, vd, ve, .slice none 0 0, .int .i64 0, .slice none 0 0] 55 (0, 0)) ∧ w2.heap.size ≤ gw) ∧ (b 12 = true → (m12_ : Value) = .agg #[vA, va, vb, vc, .slice none 0 0, vd, ve, .slice none 0 0, .int .i64 0, .slice none 0 0]) ∧ (b 13 = true → (m13_ : Value) = .pointer (some ⟨gw, 0, none⟩)) ∧ (b 14 = true → (m14_ : Value) = .pointer (some ⟨gw, 0, none⟩))) HT_.out HW_.out (by kernel_rfl) (by kernel_rfl) ?_ ?_ ?_
 ·exact ⟨.bool false, .bool false, .bool false, .bool false, .bool false, .bool false, 0, .bool false, .bool false, .bool false, by simp only [putSel, Bool.false_eq_true, if_false], HBr, fun h_ => absurd h_ (by decide), fun h_ => absurd h_ (by decide), fun h_ => absurd h_ (by decide), fun h_ => absurd h_ (by decide), fun h_ => absurd h_ (by decide), fun h_ => absurd h_ (by decide), h0l, h0l, h0l, h0l, h0l, h0d, h0d, h0d, h0d, fun h_ => absurd h_ (by decide), fun h_ => absurd h_ (by decide), fun h_ => absurd h_ (by decide), fun h_ => absurd h_ (by decide)⟩
 ·skip
  refine steps_cons ?_ ?_
  ·rintro b a w' ⟨vA, va, vb, vc, vd, ve, gw, m12_, m13_, m14_, ha, Q_HB, Q_NA, Q_RA, Q_RB, Q_RC, Q_RD, Q_RE, Q_LA, Q_LB, Q_LC, Q_LD, Q_LE, Q_D12, Q_D13, Q_D23, Q_D56, Q_GW, Q_X12_, Q_X13_, Q_X14_⟩ hb_ hon hoff
   refine ⟨_, rfl, fun K hK => ?_⟩
   have e1 : a.tmps[1]? = some (.pointer (some ⟨gb, 0, none⟩)) := by rw [ha]; exact (putSel_off rfl).trans rfl
   replace ha := zMk ha
   have HB := zMk Q_HB
   have LA := zMk Q_LA
   have LB := zMk Q_LB
   have LC := zMk Q_LC
   have LD := zMk Q_LD
   have LE := zMk Q_LE
   have D12 := zMk Q_D12
   have D13 := zMk Q_D13
   have D23 := zMk Q_D23
   have D56 := zMk Q_D56
   have bm_ := zKb BM.out HB.out
   have z0_ := (zKc bm_ 0).trans rfl
   have z1_ := (zKc bm_ 1).trans rfl
   simp only [List.getElem?_toArray, List.getElem?_cons_succ, List.getElem?_cons_zero] at z0_ z1_
   refine value_ (w1:=w') (v:=.agg #[.int .i64 (nn : Int), .slice A0 E.length c0]) (by rfl) rfl ?_ ?_
   ·go_simp
    (try simp only [i64_w])
    try rfl
   refine hK.out _ _ ⟨vA, va, vb, vc, vd, ve, gw, m12_, m13_, m14_, (by rw [ha.out]; exact putSel_upk 0 hb_ rfl rfl rfl), Q_HB, fun h0_ => absurd ((hoff 1 (by kernel_rfl)).symm.trans h0_) (by decide), Q_RA, Q_RB, Q_RC, Q_RD, Q_RE, Q_LA, Q_LB, Q_LC, Q_LD, Q_LE, Q_D12, Q_D13, Q_D23, Q_D56, fun h0_ => absurd ((hoff 13 (by kernel_rfl)).symm.trans h0_) (by decide), fun h0_ => absurd ((hoff 12 (by kernel_rfl)).symm.trans h0_) (by decide), fun h0_ => absurd ((hoff 13 (by kernel_rfl)).symm.trans h0_) (by decide), fun h0_ => absurd ((hoff 14 (by kernel_rfl)).symm.trans h0_) (by decide)⟩
  refine steps_cons ?_ ?_
  ·rintro b a w' ⟨vA, va, vb, vc, vd, ve, gw, m12_, m13_, m14_, ha, Q_HB, Q_NA, Q_RA, Q_RB, Q_RC, Q_RD, Q_RE, Q_LA, Q_LB, Q_LC, Q_LD, Q_LE, Q_D12, Q_D13, Q_D23, Q_D56, Q_GW, Q_X12_, Q_X13_, Q_X14_⟩ hb_ hon hoff
   refine ⟨_, rfl, fun K hK => ?_⟩
   have e13 : a.tmps[13]? = some (.agg #[.int .i64 (nn : Int), .slice A0 E.length c0]) := by rw [ha]; exact putSel_on (e:=(0, 13, .agg #[.int .i64 (nn : Int), .slice A0 E.length c0])) 0 rfl rfl (hon 0 (by kernel_rfl)) rfl
   replace ha := zMk ha
   have HB := zMk Q_HB
   have LA := zMk Q_LA
   have LB := zMk Q_LB
   have LC := zMk Q_LC
   have LD := zMk Q_LD
   have LE := zMk Q_LE
   have D12 := zMk Q_D12
   have D13 := zMk Q_D13
   have D23 := zMk Q_D23
   have D56 := zMk Q_D56
   refine goes_ Try.func28 (by kernel_rfl) rfl #[.agg #[.int .i64 (nn : Int), .slice A0 E.length c0]] (by rfl) rfl rfl (by first | (simp only [zMa, zMc, zMn, Act.eval, Array.getD_eq_getD_getElem?, Option.getD_some, e13]; done) | (simp only [zMa, zMc, zMn, Act.eval, Array.getD_eq_getD_getElem?, Option.getD_some, e13]; rfl)) ?_
   with_reducible refine (parts_arcs.calls k (nn : Int) A0 c0 E near w' (Kd.C_below HR.out (zBt HB1.out HB.out)) HC.out HN.out).mono ?_
   rintro e w3_ ⟨vN_, rfl, ho, hb⟩
   refine ⟨_, rfl, ?_⟩
   have hbq := HB.out
   have hs_ := Kd.S_lower ho (zBs hbq)
   refine hK.out _ _ ⟨vN_, va, vb, vc, vd, ve, gw, m12_, m13_, m14_, (by rw [ha.out]; exact putSel_upk 1 hb_ rfl rfl rfl), zBt hbq hb, fun _ => hs_, fun h0_ => zRb (Q_RA h0_) hb, fun h0_ => zRb (Q_RB h0_) hb, fun h0_ => zRb (Q_RC h0_) hb, fun h0_ => zRb (Q_RD h0_) hb, fun h0_ => zRb (Q_RE h0_) hb, (fun k_ hk => Nat.lt_of_lt_of_le (LA.out k_ hk) (zBs hb)), (fun k_ hk => Nat.lt_of_lt_of_le (LB.out k_ hk) (zBs hb)), (fun k_ hk => Nat.lt_of_lt_of_le (LC.out k_ hk) (zBs hb)), (fun k_ hk => Nat.lt_of_lt_of_le (LD.out k_ hk) (zBs hb)), (fun k_ hk => Nat.lt_of_lt_of_le (LE.out k_ hk) (zBs hb)), Q_D12, Q_D13, Q_D23, Q_D56, fun h0_ => absurd ((hoff 13 (by kernel_rfl)).symm.trans h0_) (by decide), fun h0_ => absurd ((hoff 12 (by kernel_rfl)).symm.trans h0_) (by decide), fun h0_ => absurd ((hoff 13 (by kernel_rfl)).symm.trans h0_) (by decide), fun h0_ => absurd ((hoff 14 (by kernel_rfl)).symm.trans h0_) (by decide)⟩
  refine steps_cons ?_ ?_
  ·rintro b a w' ⟨vA, va, vb, vc, vd, ve, gw, m12_, m13_, m14_, ha, Q_HB, Q_NA, Q_RA, Q_RB, Q_RC, Q_RD, Q_RE, Q_LA, Q_LB, Q_LC, Q_LD, Q_LE, Q_D12, Q_D13, Q_D23, Q_D56, Q_GW, Q_X12_, Q_X13_, Q_X14_⟩ hb_ hon hoff
   refine ⟨_, rfl, fun K hK => ?_⟩
   have e15 : a.tmps[15]? = some (.int .i64 (nn : Int)) := by rw [ha]; exact (putSel_off rfl).trans rfl
   replace ha := zMk ha
   have HB := zMk Q_HB
   have LA := zMk Q_LA
   have LB := zMk Q_LB
   have LC := zMk Q_LC
   have LD := zMk Q_LD
   have LE := zMk Q_LE
   have D12 := zMk Q_D12
   have D13 := zMk Q_D13
   have D23 := zMk Q_D23
   have D56 := zMk Q_D56
   have hbq := HB.out
   refine Kd.R_make_step wkI (w0:=w') w'.heap.size 3 (by rfl) (N:=16) rfl 33 _ _ rfl (nn : Int) (by simp only [Act.eval, Array.getD_eq_getD_getElem?, e15, Option.getD_some]) (by simp only [Act.eval, Array.getD_eq_getD_getElem?, e15, Option.getD_some]) Try.underlying33 (.int .i64 0) 8 info3 rfl (by decide) (by omega) (0 : Int) (ok:=fun _ => True) (okp:=fun _ => True) rfl (fun _ hk => hk) trivial (Int.natCast_nonneg _) (by rw [zTn]; have := HNN.out; omega) (Below.refl _ _) (Nat.le_refl _) ?_
   intro vN_ w3_ ho hb hg hnew
   clear hg
   rw [zTn] at ho
   have RX := zMk (zRl ho (zBs hbq))
   refine hK.out _ _ ⟨vA, vN_, vb, vc, vd, ve, gw, m12_, m13_, m14_, (by rw [ha.out]; exact putSel_upk 2 hb_ rfl rfl rfl), zBt hbq hb, fun h0_ => Kd.S_below (Q_NA h0_) hb, fun _ => RX.out, fun h0_ => zRb (Q_RB h0_) hb, fun h0_ => zRb (Q_RC h0_) hb, fun h0_ => zRb (Q_RD h0_) hb, fun h0_ => zRb (Q_RE h0_) hb, zRt RX.out, (fun k_ hk => Nat.lt_of_lt_of_le (LB.out k_ hk) (zBs hb)), (fun k_ hk => Nat.lt_of_lt_of_le (LC.out k_ hk) (zBs hb)), (fun k_ hk => Nat.lt_of_lt_of_le (LD.out k_ hk) (zBs hb)), (fun k_ hk => Nat.lt_of_lt_of_le (LE.out k_ hk) (zBs hb)), (fun k_ hk e_ => by have h1_ := LB.out k_ e_.symm; obtain ⟨b_, h2_, h3_⟩ := hnew; rw [h2_] at hk; injection hk with hk; omega), (fun k_ hk e_ => by have h1_ := LC.out k_ e_.symm; obtain ⟨b_, h2_, h3_⟩ := hnew; rw [h2_] at hk; injection hk with hk; omega), Q_D23, Q_D56, fun h0_ => absurd ((hoff 13 (by kernel_rfl)).symm.trans h0_) (by decide), fun h0_ => absurd ((hoff 12 (by kernel_rfl)).symm.trans h0_) (by decide), fun h0_ => absurd ((hoff 13 (by kernel_rfl)).symm.trans h0_) (by decide), fun h0_ => absurd ((hoff 14 (by kernel_rfl)).symm.trans h0_) (by decide)⟩
  refine steps_cons ?_ ?_
  ·rintro b a w' ⟨vA, va, vb, vc, vd, ve, gw, m12_, m13_, m14_, ha, Q_HB, Q_NA, Q_RA, Q_RB, Q_RC, Q_RD, Q_RE, Q_LA, Q_LB, Q_LC, Q_LD, Q_LE, Q_D12, Q_D13, Q_D23, Q_D56, Q_GW, Q_X12_, Q_X13_, Q_X14_⟩ hb_ hon hoff
   refine ⟨_, rfl, fun K hK => ?_⟩
   have e17 : a.tmps[17]? = some (.int .i64 (nn : Int)) := by rw [ha]; exact (putSel_off rfl).trans rfl
   replace ha := zMk ha
   have HB := zMk Q_HB
   have LA := zMk Q_LA
   have LB := zMk Q_LB
   have LC := zMk Q_LC
   have LD := zMk Q_LD
   have LE := zMk Q_LE
   have D12 := zMk Q_D12
   have D13 := zMk Q_D13
   have D23 := zMk Q_D23
   have D56 := zMk Q_D56
   have hbq := HB.out
   refine Kd.R_make_step wkI (w0:=w') w'.heap.size 3 (by rfl) (N:=18) rfl 33 _ _ rfl (nn : Int) (by simp only [Act.eval, Array.getD_eq_getD_getElem?, e17, Option.getD_some]) (by simp only [Act.eval, Array.getD_eq_getD_getElem?, e17, Option.getD_some]) Try.underlying33 (.int .i64 0) 8 info3 rfl (by decide) (by omega) (0 : Int) (ok:=fun _ => True) (okp:=fun _ => True) rfl (fun _ hk => hk) trivial (Int.natCast_nonneg _) (by rw [zTn]; have := HNN.out; omega) (Below.refl _ _) (Nat.le_refl _) ?_
   intro vN_ w3_ ho hb hg hnew
   clear hg
   rw [zTn] at ho
   have RX := zMk (zRl ho (zBs hbq))
   refine hK.out _ _ ⟨vA, va, vN_, vc, vd, ve, gw, m12_, m13_, m14_, (by rw [ha.out]; exact putSel_upk 3 hb_ rfl rfl rfl), zBt hbq hb, fun h0_ => Kd.S_below (Q_NA h0_) hb, fun h0_ => zRb (Q_RA h0_) hb, fun _ => RX.out, fun h0_ => zRb (Q_RC h0_) hb, fun h0_ => zRb (Q_RD h0_) hb, fun h0_ => zRb (Q_RE h0_) hb, (fun k_ hk => Nat.lt_of_lt_of_le (LA.out k_ hk) (zBs hb)), zRt RX.out, (fun k_ hk => Nat.lt_of_lt_of_le (LC.out k_ hk) (zBs hb)), (fun k_ hk => Nat.lt_of_lt_of_le (LD.out k_ hk) (zBs hb)), (fun k_ hk => Nat.lt_of_lt_of_le (LE.out k_ hk) (zBs hb)), (fun k_ hk e_ => by have h1_ := LA.out k_ hk; obtain ⟨b_, h2_, h3_⟩ := hnew; rw [h2_] at e_; injection e_ with e_; omega), Q_D13, (fun k_ hk e_ => by have h1_ := LC.out k_ e_.symm; obtain ⟨b_, h2_, h3_⟩ := hnew; rw [h2_] at hk; injection hk with hk; omega), Q_D56, fun h0_ => absurd ((hoff 13 (by kernel_rfl)).symm.trans h0_) (by decide), fun h0_ => absurd ((hoff 12 (by kernel_rfl)).symm.trans h0_) (by decide), fun h0_ => absurd ((hoff 13 (by kernel_rfl)).symm.trans h0_) (by decide), fun h0_ => absurd ((hoff 14 (by kernel_rfl)).symm.trans h0_) (by decide)⟩
  refine steps_cons ?_ ?_
  ·rintro b a w' ⟨vA, va, vb, vc, vd, ve, gw, m12_, m13_, m14_, ha, Q_HB, Q_NA, Q_RA, Q_RB, Q_RC, Q_RD, Q_RE, Q_LA, Q_LB, Q_LC, Q_LD, Q_LE, Q_D12, Q_D13, Q_D23, Q_D56, Q_GW, Q_X12_, Q_X13_, Q_X14_⟩ hb_ hon hoff
   refine ⟨_, rfl, fun K hK => ?_⟩
   have e19 : a.tmps[19]? = some (.int .i64 (nn : Int)) := by rw [ha]; exact (putSel_off rfl).trans rfl
   replace ha := zMk ha
   have HB := zMk Q_HB
   have LA := zMk Q_LA
   have LB := zMk Q_LB
   have LC := zMk Q_LC
   have LD := zMk Q_LD
   have LE := zMk Q_LE
   have D12 := zMk Q_D12
   have D13 := zMk Q_D13
   have D23 := zMk Q_D23
   have D56 := zMk Q_D56
   have hbq := HB.out
   refine Kd.R_make_step wkI (w0:=w') w'.heap.size 3 (by rfl) (N:=20) rfl 33 _ _ rfl (nn : Int) (by simp only [Act.eval, Array.getD_eq_getD_getElem?, e19, Option.getD_some]) (by simp only [Act.eval, Array.getD_eq_getD_getElem?, e19, Option.getD_some]) Try.underlying33 (.int .i64 0) 8 info3 rfl (by decide) (by omega) (0 : Int) (ok:=fun _ => True) (okp:=fun _ => True) rfl (fun _ hk => hk) trivial (Int.natCast_nonneg _) (by rw [zTn]; have := HNN.out; omega) (Below.refl _ _) (Nat.le_refl _) ?_
   intro vN_ w3_ ho hb hg hnew
   clear hg
   rw [zTn] at ho
   have RX := zMk (zRl ho (zBs hbq))
   refine hK.out _ _ ⟨vA, va, vb, vN_, vd, ve, gw, m12_, m13_, m14_, (by rw [ha.out]; exact putSel_upk 4 hb_ rfl rfl rfl), zBt hbq hb, fun h0_ => Kd.S_below (Q_NA h0_) hb, fun h0_ => zRb (Q_RA h0_) hb, fun h0_ => zRb (Q_RB h0_) hb, fun _ => RX.out, fun h0_ => zRb (Q_RD h0_) hb, fun h0_ => zRb (Q_RE h0_) hb, (fun k_ hk => Nat.lt_of_lt_of_le (LA.out k_ hk) (zBs hb)), (fun k_ hk => Nat.lt_of_lt_of_le (LB.out k_ hk) (zBs hb)), zRt RX.out, (fun k_ hk => Nat.lt_of_lt_of_le (LD.out k_ hk) (zBs hb)), (fun k_ hk => Nat.lt_of_lt_of_le (LE.out k_ hk) (zBs hb)), Q_D12, (fun k_ hk e_ => by have h1_ := LA.out k_ hk; obtain ⟨b_, h2_, h3_⟩ := hnew; rw [h2_] at e_; injection e_ with e_; omega), (fun k_ hk e_ => by have h1_ := LB.out k_ hk; obtain ⟨b_, h2_, h3_⟩ := hnew; rw [h2_] at e_; injection e_ with e_; omega), Q_D56, fun h0_ => absurd ((hoff 13 (by kernel_rfl)).symm.trans h0_) (by decide), fun h0_ => absurd ((hoff 12 (by kernel_rfl)).symm.trans h0_) (by decide), fun h0_ => absurd ((hoff 13 (by kernel_rfl)).symm.trans h0_) (by decide), fun h0_ => absurd ((hoff 14 (by kernel_rfl)).symm.trans h0_) (by decide)⟩
  refine steps_cons ?_ ?_
  ·rintro b a w' ⟨vA, va, vb, vc, vd, ve, gw, m12_, m13_, m14_, ha, Q_HB, Q_NA, Q_RA, Q_RB, Q_RC, Q_RD, Q_RE, Q_LA, Q_LB, Q_LC, Q_LD, Q_LE, Q_D12, Q_D13, Q_D23, Q_D56, Q_GW, Q_X12_, Q_X13_, Q_X14_⟩ hb_ hon hoff
   refine ⟨_, rfl, fun K hK => ?_⟩
   have e21 : a.tmps[21]? = some (.int .i64 (E.length : Int)) := by rw [ha]; exact (putSel_off rfl).trans rfl
   replace ha := zMk ha
   have HB := zMk Q_HB
   have LA := zMk Q_LA
   have LB := zMk Q_LB
   have LC := zMk Q_LC
   have LD := zMk Q_LD
   have LE := zMk Q_LE
   have D12 := zMk Q_D12
   have D13 := zMk Q_D13
   have D23 := zMk Q_D23
   have D56 := zMk Q_D56
   have hbq := HB.out
   refine Kd.R_make_step Kd.bool (w0:=w') w'.heap.size 4 (by rfl) (N:=22) rfl 36 _ _ rfl (E.length : Int) (by simp only [Act.eval, Array.getD_eq_getD_getElem?, e21, Option.getD_some]) (by simp only [Act.eval, Array.getD_eq_getD_getElem?, e21, Option.getD_some]) Try.underlying36 (.bool false) 1 info4 rfl (by decide) (by omega) false (ok:=fun _ => True) (okp:=fun _ => True) rfl (fun _ hk => hk) trivial (Int.natCast_nonneg _) (by rw [zTn]; have := HEL.out; omega) (Below.refl _ _) (Nat.le_refl _) ?_
   intro vN_ w3_ ho hb hg hnew
   clear hg
   rw [zTn] at ho
   have RX := zMk (zRl ho (zBs hbq))
   refine hK.out _ _ ⟨vA, va, vb, vc, vN_, ve, gw, m12_, m13_, m14_, (by rw [ha.out]; exact putSel_upk 5 hb_ rfl rfl rfl), zBt hbq hb, fun h0_ => Kd.S_below (Q_NA h0_) hb, fun h0_ => zRb (Q_RA h0_) hb, fun h0_ => zRb (Q_RB h0_) hb, fun h0_ => zRb (Q_RC h0_) hb, fun _ => RX.out, fun h0_ => zRb (Q_RE h0_) hb, (fun k_ hk => Nat.lt_of_lt_of_le (LA.out k_ hk) (zBs hb)), (fun k_ hk => Nat.lt_of_lt_of_le (LB.out k_ hk) (zBs hb)), (fun k_ hk => Nat.lt_of_lt_of_le (LC.out k_ hk) (zBs hb)), zRt RX.out, (fun k_ hk => Nat.lt_of_lt_of_le (LE.out k_ hk) (zBs hb)), Q_D12, Q_D13, Q_D23, (fun k_ hk e_ => by have h1_ := LE.out k_ e_.symm; obtain ⟨b_, h2_, h3_⟩ := hnew; rw [h2_] at hk; injection hk with hk; omega), fun h0_ => absurd ((hoff 13 (by kernel_rfl)).symm.trans h0_) (by decide), fun h0_ => absurd ((hoff 12 (by kernel_rfl)).symm.trans h0_) (by decide), fun h0_ => absurd ((hoff 13 (by kernel_rfl)).symm.trans h0_) (by decide), fun h0_ => absurd ((hoff 14 (by kernel_rfl)).symm.trans h0_) (by decide)⟩
  refine steps_cons ?_ ?_
  ·rintro b a w' ⟨vA, va, vb, vc, vd, ve, gw, m12_, m13_, m14_, ha, Q_HB, Q_NA, Q_RA, Q_RB, Q_RC, Q_RD, Q_RE, Q_LA, Q_LB, Q_LC, Q_LD, Q_LE, Q_D12, Q_D13, Q_D23, Q_D56, Q_GW, Q_X12_, Q_X13_, Q_X14_⟩ hb_ hon hoff
   refine ⟨_, rfl, fun K hK => ?_⟩
   have e23 : a.tmps[23]? = some (.int .i64 (nn : Int)) := by rw [ha]; exact (putSel_off rfl).trans rfl
   replace ha := zMk ha
   have HB := zMk Q_HB
   have LA := zMk Q_LA
   have LB := zMk Q_LB
   have LC := zMk Q_LC
   have LD := zMk Q_LD
   have LE := zMk Q_LE
   have D12 := zMk Q_D12
   have D13 := zMk Q_D13
   have D23 := zMk Q_D23
   have D56 := zMk Q_D56
   have hbq := HB.out
   refine Kd.R_make_step Kd.bool (w0:=w') w'.heap.size 4 (by rfl) (N:=24) rfl 36 _ _ rfl (nn : Int) (by simp only [Act.eval, Array.getD_eq_getD_getElem?, e23, Option.getD_some]) (by simp only [Act.eval, Array.getD_eq_getD_getElem?, e23, Option.getD_some]) Try.underlying36 (.bool false) 1 info4 rfl (by decide) (by omega) false (ok:=fun _ => True) (okp:=fun _ => True) rfl (fun _ hk => hk) trivial (Int.natCast_nonneg _) (by rw [zTn]; have := HNN.out; omega) (Below.refl _ _) (Nat.le_refl _) ?_
   intro vN_ w3_ ho hb hg hnew
   clear hg
   rw [zTn] at ho
   have RX := zMk (zRl ho (zBs hbq))
   refine hK.out _ _ ⟨vA, va, vb, vc, vd, vN_, gw, m12_, m13_, m14_, (by rw [ha.out]; exact putSel_upk 6 hb_ rfl rfl rfl), zBt hbq hb, fun h0_ => Kd.S_below (Q_NA h0_) hb, fun h0_ => zRb (Q_RA h0_) hb, fun h0_ => zRb (Q_RB h0_) hb, fun h0_ => zRb (Q_RC h0_) hb, fun h0_ => zRb (Q_RD h0_) hb, fun _ => RX.out, (fun k_ hk => Nat.lt_of_lt_of_le (LA.out k_ hk) (zBs hb)), (fun k_ hk => Nat.lt_of_lt_of_le (LB.out k_ hk) (zBs hb)), (fun k_ hk => Nat.lt_of_lt_of_le (LC.out k_ hk) (zBs hb)), (fun k_ hk => Nat.lt_of_lt_of_le (LD.out k_ hk) (zBs hb)), zRt RX.out, Q_D12, Q_D13, Q_D23, (fun k_ hk e_ => by have h1_ := LD.out k_ hk; obtain ⟨b_, h2_, h3_⟩ := hnew; rw [h2_] at e_; injection e_ with e_; omega), fun h0_ => absurd ((hoff 13 (by kernel_rfl)).symm.trans h0_) (by decide), fun h0_ => absurd ((hoff 12 (by kernel_rfl)).symm.trans h0_) (by decide), fun h0_ => absurd ((hoff 13 (by kernel_rfl)).symm.trans h0_) (by decide), fun h0_ => absurd ((hoff 14 (by kernel_rfl)).symm.trans h0_) (by decide)⟩
  refine steps_cons ?_ ?_
  ·rintro b a w' ⟨vA, va, vb, vc, vd, ve, gw, m12_, m13_, m14_, ha, Q_HB, Q_NA, Q_RA, Q_RB, Q_RC, Q_RD, Q_RE, Q_LA, Q_LB, Q_LC, Q_LD, Q_LE, Q_D12, Q_D13, Q_D23, Q_D56, Q_GW, Q_X12_, Q_X13_, Q_X14_⟩ hb_ hon hoff
   refine ⟨_, rfl, fun K hK => ?_⟩
   have e14 : a.tmps[14]? = some (vA) := by rw [ha]; exact putSel_on (e:=(1, 14, vA)) 1 rfl rfl (hon 1 (by kernel_rfl)) rfl
   have e16 : a.tmps[16]? = some (va) := by rw [ha]; exact putSel_on (e:=(3, 16, va)) 2 rfl rfl (hon 3 (by kernel_rfl)) rfl
   have e18 : a.tmps[18]? = some (vb) := by rw [ha]; exact putSel_on (e:=(5, 18, vb)) 3 rfl rfl (hon 5 (by kernel_rfl)) rfl
   have e20 : a.tmps[20]? = some (vc) := by rw [ha]; exact putSel_on (e:=(7, 20, vc)) 4 rfl rfl (hon 7 (by kernel_rfl)) rfl
   have e22 : a.tmps[22]? = some (vd) := by rw [ha]; exact putSel_on (e:=(9, 22, vd)) 5 rfl rfl (hon 9 (by kernel_rfl)) rfl
   have e24 : a.tmps[24]? = some (ve) := by rw [ha]; exact putSel_on (e:=(11, 24, ve)) 6 rfl rfl (hon 11 (by kernel_rfl)) rfl
   replace ha := zMk ha
   have HB := zMk Q_HB
   have NA := zMk (Q_NA (hon 1 (by kernel_rfl)))
   have RA := zMk (Q_RA (hon 3 (by kernel_rfl)))
   have RB := zMk (Q_RB (hon 5 (by kernel_rfl)))
   have RC := zMk (Q_RC (hon 7 (by kernel_rfl)))
   have RD := zMk (Q_RD (hon 9 (by kernel_rfl)))
   have RE := zMk (Q_RE (hon 11 (by kernel_rfl)))
   have LA := zMk Q_LA
   have LB := zMk Q_LB
   have LC := zMk Q_LC
   have LD := zMk Q_LD
   have LE := zMk Q_LE
   have D12 := zMk Q_D12
   have D13 := zMk Q_D13
   have D23 := zMk Q_D23
   have D56 := zMk Q_D56
   obtain ⟨AvA_, cvA_, evA_⟩ := Kd.S_slice NA.out
   subst evA_
   obtain ⟨Ava_, cva_, eva_⟩ := zRs RA.out
   subst eva_
   obtain ⟨Avb_, cvb_, evb_⟩ := zRs RB.out
   subst evb_
   obtain ⟨Avc_, cvc_, evc_⟩ := zRs RC.out
   subst evc_
   obtain ⟨Avd_, cvd_, evd_⟩ := zRs RD.out
   subst evd_
   obtain ⟨Ave_, cve_, eve_⟩ := zRs RE.out
   subst eve_
   refine value_ (w1:=w') (v:=.agg #[(.slice AvA_ near.length cvA_), (.slice Ava_ (List.replicate nn (0 : Int)).length cva_), (.slice Avb_ (List.replicate nn (0 : Int)).length cvb_), (.slice Avc_ (List.replicate nn (0 : Int)).length cvc_), .slice none 0 0, (.slice Avd_ (List.replicate E.length false).length cvd_), (.slice Ave_ (List.replicate nn false).length cve_), .slice none 0 0, .int .i64 0, .slice none 0 0]) (by rfl) rfl ?_ ?_
   ·go_simp
    (try simp only [i64_w])
    try rfl
   refine hK.out _ _ ⟨(.slice AvA_ near.length cvA_), (.slice Ava_ (List.replicate nn (0 : Int)).length cva_), (.slice Avb_ (List.replicate nn (0 : Int)).length cvb_), (.slice Avc_ (List.replicate nn (0 : Int)).length cvc_), (.slice Avd_ (List.replicate E.length false).length cvd_), (.slice Ave_ (List.replicate nn false).length cve_), gw, (.agg #[(.slice AvA_ near.length cvA_), (.slice Ava_ (List.replicate nn (0 : Int)).length cva_), (.slice Avb_ (List.replicate nn (0 : Int)).length cvb_), (.slice Avc_ (List.replicate nn (0 : Int)).length cvc_), .slice none 0 0, (.slice Avd_ (List.replicate E.length false).length cvd_), (.slice Ave_ (List.replicate nn false).length cve_), .slice none 0 0, .int .i64 0, .slice none 0 0]), m13_, m14_, (by rw [ha.out]; exact putSel_upk 7 hb_ rfl rfl rfl), Q_HB, Q_NA, Q_RA, Q_RB, Q_RC, Q_RD, Q_RE, Q_LA, Q_LB, Q_LC, Q_LD, Q_LE, Q_D12, Q_D13, Q_D23, Q_D56, fun h0_ => absurd ((hoff 13 (by kernel_rfl)).symm.trans h0_) (by decide), fun _ => rfl, fun h0_ => absurd ((hoff 13 (by kernel_rfl)).symm.trans h0_) (by decide), fun h0_ => absurd ((hoff 14 (by kernel_rfl)).symm.trans h0_) (by decide)⟩
  refine steps_cons ?_ ?_
  ·rintro b a w' ⟨vA, va, vb, vc, vd, ve, gw, m12_, m13_, m14_, ha, Q_HB, Q_NA, Q_RA, Q_RB, Q_RC, Q_RD, Q_RE, Q_LA, Q_LB, Q_LC, Q_LD, Q_LE, Q_D12, Q_D13, Q_D23, Q_D56, Q_GW, Q_X12_, Q_X13_, Q_X14_⟩ hb_ hon hoff
   refine ⟨_, rfl, fun K hK => ?_⟩
   have e25 : a.tmps[25]? = some (m12_) := by rw [ha]; exact putSel_on (e:=(12, 25, m12_)) 7 rfl rfl (hon 12 (by kernel_rfl)) rfl
   rw [Q_X12_ (hon 12 (by kernel_rfl))] at e25
   replace ha := zMk ha
   have HB := zMk Q_HB
   have NA := zMk (Q_NA (hon 1 (by kernel_rfl)))
   have RA := zMk (Q_RA (hon 3 (by kernel_rfl)))
   have RB := zMk (Q_RB (hon 5 (by kernel_rfl)))
   have RC := zMk (Q_RC (hon 7 (by kernel_rfl)))
   have RD := zMk (Q_RD (hon 9 (by kernel_rfl)))
   have RE := zMk (Q_RE (hon 11 (by kernel_rfl)))
   have LA := zMk Q_LA
   have LB := zMk Q_LB
   have LC := zMk Q_LC
   have LD := zMk Q_LD
   have LE := zMk Q_LE
   have D12 := zMk Q_D12
   have D13 := zMk Q_D13
   have D23 := zMk Q_D23
   have D56 := zMk Q_D56
   have hbq := HB.out
   refine box_step (by rfl) (N:=26) rfl (cs:=#[vA, va, vb, vc, .slice none 0 0, vd, ve, .slice none 0 0, .int .i64 0, .slice none 0 0]) (t:=55) ?hr ?_; (case hr => first | (go_simp; done) | (go_simp; rfl))
   intro gN_ hg w3_ hbox hb
   refine hK.out _ _ ⟨vA, va, vb, vc, vd, ve, gN_, m12_, (.pointer (some ⟨gN_, 0, none⟩)), m14_, (by rw [ha.out]; exact putSel_upk 8 hb_ rfl rfl rfl), zBt hbq hb, fun _ => Kd.S_below NA.out hb, fun _ => zRb RA.out hb, fun _ => zRb RB.out hb, fun _ => zRb RC.out hb, fun _ => zRb RD.out hb, fun _ => zRb RE.out hb, (fun k_ hk => Nat.lt_of_lt_of_le (LA.out k_ hk) (zBs hb)), (fun k_ hk => Nat.lt_of_lt_of_le (LB.out k_ hk) (zBs hb)), (fun k_ hk => Nat.lt_of_lt_of_le (LC.out k_ hk) (zBs hb)), (fun k_ hk => Nat.lt_of_lt_of_le (LD.out k_ hk) (zBs hb)), (fun k_ hk => Nat.lt_of_lt_of_le (LE.out k_ hk) (zBs hb)), Q_D12, Q_D13, Q_D23, Q_D56, fun _ => ⟨hbox, hg ▸ zBs hbq⟩, Q_X12_, fun _ => rfl, fun h0_ => absurd ((hoff 14 (by kernel_rfl)).symm.trans h0_) (by decide)⟩
  refine steps_cons ?_ ?_
  ·rintro b a w' ⟨vA, va, vb, vc, vd, ve, gw, m12_, m13_, m14_, ha, Q_HB, Q_NA, Q_RA, Q_RB, Q_RC, Q_RD, Q_RE, Q_LA, Q_LB, Q_LC, Q_LD, Q_LE, Q_D12, Q_D13, Q_D23, Q_D56, Q_GW, Q_X12_, Q_X13_, Q_X14_⟩ hb_ hon hoff
   refine ⟨_, rfl, fun K hK => ?_⟩
   have e26 : a.tmps[26]? = some (m13_) := by rw [ha]; exact putSel_on (e:=(13, 26, m13_)) 8 rfl rfl (hon 13 (by kernel_rfl)) rfl
   rw [Q_X13_ (hon 13 (by kernel_rfl))] at e26
   replace ha := zMk ha
   have HB := zMk Q_HB
   have NA := zMk (Q_NA (hon 1 (by kernel_rfl)))
   have RA := zMk (Q_RA (hon 3 (by kernel_rfl)))
   have RB := zMk (Q_RB (hon 5 (by kernel_rfl)))
   have RC := zMk (Q_RC (hon 7 (by kernel_rfl)))
   have RD := zMk (Q_RD (hon 9 (by kernel_rfl)))
   have RE := zMk (Q_RE (hon 11 (by kernel_rfl)))
   have LA := zMk Q_LA
   have LB := zMk Q_LB
   have LC := zMk Q_LC
   have LD := zMk Q_LD
   have LE := zMk Q_LE
   have D12 := zMk Q_D12
   have D13 := zMk Q_D13
   have D23 := zMk Q_D23
   have D56 := zMk Q_D56
   have GW := zMk (Q_GW (hon 13 (by kernel_rfl)))
   refine value_ (w1:=w') (v:=.pointer (some ⟨gw, 0, none⟩)) (by rfl) rfl ?_ ?_
   ·go_simp
    (try simp only [i64_w])
    try rfl
   refine hK.out _ _ ⟨vA, va, vb, vc, vd, ve, gw, m12_, m13_, (.pointer (some ⟨gw, 0, none⟩)), (by rw [ha.out]; exact putSel_upk 9 hb_ rfl rfl rfl), Q_HB, Q_NA, Q_RA, Q_RB, Q_RC, Q_RD, Q_RE, Q_LA, Q_LB, Q_LC, Q_LD, Q_LE, Q_D12, Q_D13, Q_D23, Q_D56, Q_GW, Q_X12_, Q_X13_, fun _ => rfl⟩
  exact steps_nil
 rintro b a w' hall ⟨vA, va, vb, vc, vd, ve, gw, m12_, m13_, m14_, ha, Q_HB, Q_NA, Q_RA, Q_RB, Q_RC, Q_RD, Q_RE, Q_LA, Q_LB, Q_LC, Q_LD, Q_LE, Q_D12, Q_D13, Q_D23, Q_D56, Q_GW, Q_X12_, Q_X13_, Q_X14_⟩
 have hb0_ := hall 0 (by kernel_rfl)
 have hb1_ := hall 1 (by kernel_rfl)
 have hb3_ := hall 3 (by kernel_rfl)
 have hb5_ := hall 5 (by kernel_rfl)
 have hb7_ := hall 7 (by kernel_rfl)
 have hb9_ := hall 9 (by kernel_rfl)
 have hb11_ := hall 11 (by kernel_rfl)
 have hb12_ := hall 12 (by kernel_rfl)
 have hb13_ := hall 13 (by kernel_rfl)
 have hb14_ := hall 14 (by kernel_rfl)
 subst ha
 obtain rfl := Q_X12_ hb12_
 obtain rfl := Q_X13_ hb13_
 obtain rfl := Q_X14_ hb14_
 simp only [putSel, hb0_, hb1_, hb3_, hb5_, hb7_, hb9_, hb11_, hb12_, hb13_, hb14_, if_true, Act.put, zSa, zSb, zSc]
 have HB := zMk Q_HB
 clear Q_HB
 have NA := zMk (Q_NA hb1_)
 clear Q_NA
 have RA := zMk (Q_RA hb3_)
 clear Q_RA
 have RB := zMk (Q_RB hb5_)
 clear Q_RB
 have RC := zMk (Q_RC hb7_)
 clear Q_RC
 have RD := zMk (Q_RD hb9_)
 clear Q_RD
 have RE := zMk (Q_RE hb11_)
 clear Q_RE
 have LA := zMk Q_LA
 clear Q_LA
 have LB := zMk Q_LB
 clear Q_LB
 have LC := zMk Q_LC
 clear Q_LC
 have LD := zMk Q_LD
 clear Q_LD
 have LE := zMk Q_LE
 clear Q_LE
 have D12 := zMk Q_D12
 clear Q_D12
 have D13 := zMk Q_D13
 clear Q_D13
 have D23 := zMk Q_D23
 clear Q_D23
 have D56 := zMk Q_D56
 clear Q_D56
 have GW := zMk (Q_GW hb13_)
 clear Q_GW
 clear hall hb0_ hb1_ hb3_ hb5_ hb7_ hb9_ hb11_ hb12_ hb13_ hb14_
 obtain ⟨An, cn, en⟩ := Kd.S_slice NA.out
 subst en
 have HW := zMk (show WkW w2 w' w' gw (.slice An near.length cn) ⟨va, vb, vc, .slice none 0 0, vd, ve, .slice none 0 0, .slice none 0 0⟩ (wkStart nn E.length) from
  { hBl := HB.out, hK := ⟨Nat.le_refl _, fun _ _ _ _ h => h⟩, hgw := GW.out.2, hw := GW.out.1, h1 := RA.out, h2 := RB.out, h3 := RC.out, hE := Kd.R_nil _ _ _ _ _, h5 := RD.out, h6 := RE.out, hB := Kd.S_nil _ _ _ _ _, hS := Kd.R_nil _ _ _ _ _, d12 := D12.out, d13 := D13.out, d23 := D23.out, dE1 := fun k hk => (by cases hk), dE2 := fun k hk => (by cases hk), dE3 := fun k hk => (by cases hk), d56 := D56.out })
 clear HB RA RB RC RD RE LA LB LC LD LE D12 D13 D23 D56 GW BM HN
 have HL0 := zMk (show (wkStart nn E.length).ord.length = nn from List.length_replicate)
 generalize wkStart nn E.length = s0 at HW HA HL0
 generalize ({ v1 := va, v2 := vb, v3 := vc, vE := .slice none 0 0, v5 := vd, v6 := ve, vB := .slice none 0 0, vS := .slice none 0 0 } : WkV) = V0 at HW
 go_wp2
 go_loopg [30] nn (fun kx s30 wr => ∃ (v : Nat) (V : WkV) (s : Wk), s30 = .int .i64 (v : Int) ∧ v ≤ nn ∧ nn - v ≤ kx ∧ Aside0 (WkW w2 w' wr gw (.slice An near.length cn) V s) ∧ Aside0 (wkAll (wkRun (wkLeave wkOff (wkMore near) near) near k) (nn - v) v s = some sr))
 case atStart => exact ⟨0, V0, s0, rfl, Nat.zero_le _, Nat.le_refl _, HW, HA⟩
 case round =>
  clear HW HA HL0
  obtain ⟨v, V, s, rfl, hv, hg3, HW, HA⟩ := hrel
  by_cases hlt : v < nn
  rotate_left
  ·have h := HA.out
   rw [show nn - v = 0 by omega, wkAll] at h
   obtain rfl := zOi h
   have hvn : ((v : Int) < (nn : Int)) = False := eq_false (by omega)
   clear h HA
   obtain ⟨AB, cB, eB⟩ := Kd.S_slice HW.out.hB
   have z7 : wr.cell? ⟨gw, 7, none⟩ = some (.slice AB s.blocks.length cB) := (zKc HW.out.hw 7).trans (congrArg some eB)
   have EB := zMk eB
   clear eB
   go_wp2_with (go_at_call 46; refine (wkSorts.calls w2 w' _ gw _ V s s' AB cB HW.out EB.out HZ.out).mono ?_; rintro e wz ⟨rfl, hz⟩; have HF := zMk hz; clear hz)
   go_ret
   exact ⟨_, _, V, w2, w', rfl, HF.out, HB1.out⟩
  have h := HA.out
  clear HA
  rw [show nn - v = (nn - (v + 1)) + 1 by omega, wkAll] at h
  by_cases hvl : (v : Int) < (s.ord.length : Int)
  rotate_left
  ·rw [if_neg hvl] at h; cases h
  rw [if_pos hvl] at h
  obtain ⟨g1, c1, e1, -, -, -⟩ := Kd.R_form HW.out.h1 (by omega)
  have z1 : wr.cell? ⟨gw, 1, none⟩ = some (.slice (some ⟨g1, 0, none⟩) s.ord.length c1) := (zKc HW.out.hw 1).trans (congrArg some e1)
  have h1' := HW.out.h1
  rw [e1] at h1'
  have p0 : 0 ≤ (v : Int) := Int.natCast_nonneg v
  have q0 : (v : Int) < (nn : Int) := by omega
  obtain ⟨hx, -⟩ := Kd.R_celln (0 : Int) h1' (v : Int) p0 hvl
  rw [zTn] at hx
  have zx : wr.cell? ⟨g1, v, none⟩ = some (.int .i64 (rd s.ord (v : Int))) := hx
  have hi64 : wrap64 ((v : Int) + 1) = ((v + 1 : Nat) : Int) := by have := HNN.out; unfold wrap64; omega
  have HH := zMk h
  clear hx h1' e1 h
  replace p0 := eq_true p0
  replace q0 := eq_true q0
  replace hvl := eq_true hvl
  have h := HH.out
  clear HH
  by_cases hz : rd s.ord (v : Int) = 0
  ·rw [if_pos hz] at h
   obtain ⟨s2, h2, h⟩ := Option.bind_eq_some_iff.1 h
   have H2 := zMk h2
   have HA := zMk h
   rw [hz] at zx
   clear h h2 hz
   go_wp2_with (go_at_call 45; refine (wkRun2.calls near k w2 w' _ gw An cn V s s2 (v : Int) _ _ NA.out HW.out H2.out).mono ?_; rintro e wz ⟨rfl, V2, hz⟩; have HF := zMk hz; clear hz)
   go_roundg (nn - (v + 1))
   case measure => omega
   case rel => exact ⟨v + 1, V2, s2, by first | rfl | exact congrArg (Value.int .i64) (by omega) | exact congrArg (Value.int .i64) hi64 | exact congrArg (Value.int .i64) (by simp only [i64_w]; exact hi64), by omega, Nat.le_refl _, HF, HA⟩
  ·rw [if_neg hz] at h
   have HA := zMk h
   have hd : (rd s.ord (v : Int) == 0) = false := beq_eq_false_iff_ne.mpr hz
   clear h hz
   go_wp2
   go_roundg (nn - (v + 1))
   case measure => omega
   case rel => exact ⟨v + 1, V, s, by first | rfl | exact congrArg (Value.int .i64) (by omega) | exact congrArg (Value.int .i64) hi64 | exact congrArg (Value.int .i64) (by simp only [i64_w]; exact hi64), by omega, Nat.le_refl _, HW, HA⟩
def sumTo (f : Int → Nat) : Nat → Nat
 | 0 => 0
 | n + 1 => sumTo f n + f n
theorem sum_same {f g : Int → Nat} : ∀ n : Nat, (∀ v : Int, 0 ≤ v → v < (n : Int) → f v = g v) → sumTo f n = sumTo g n
 | 0, _ => rfl
 | n + 1, h => by rw [sumTo, sumTo, sum_same n (fun v v0 v1 => h v v0 (by omega)), h n (by omega) (by omega)]
theorem sum_less {f g : Int → Nat} {p : Int} (p0 : 0 ≤ p) (hp : f p + 1 = g p) : ∀ n : Nat, p < (n : Int) → (∀ v : Int, 0 ≤ v → v < (n : Int) → v ≠ p → f v = g v) → sumTo f n + 1 = sumTo g n
 | 0, h, _ => by omega
 | n + 1, h, hs => by
  rw [sumTo, sumTo]
  by_cases e : p = n
  ·rw [sum_same n (fun v v0 v1 => hs v v0 (by omega) (by omega)), ← e]; omega
  ·have := sum_less p0 hp n (by omega) (fun v v0 v1 hv => hs v v0 (by omega) hv)
   rw [hs n (by omega) (by omega) (fun e2 => e e2.symm)]; omega
def remOf (E : List S43) (s : Wk) (v : Int) : Nat := (((arcsOf E v).length : Int) - rd s.next v).toNat
def aNx (s : Wk) (p : Fr) : Wk := { s with next := s.next.set p.v.toNat (rd s.next p.v + 1) }
def sBack (s : Wk) (p : Fr) (a e : Int) : Wk := { s with next := s.next.set p.v.toNat (rd s.next p.v + 1), taken := s.taken.set e.toNat true, edges := s.edges ++ [e], low := s.low.set p.v.toNat (if rd s.ord a < rd s.low p.v then rd s.ord a else rd s.low p.v) }
def sPush (s : Wk) (p : Fr) (x e : Int) : Wk := { s with next := s.next.set p.v.toNat (rd s.next p.v + 1), taken := s.taken.set e.toNat true, edges := s.edges ++ [e], clock := s.clock + 1, ord := s.ord.set x.toNat (s.clock + 1), low := s.low.set x.toNat (s.clock + 1), stack := s.stack ++ [⟨x, e⟩] }
def sRoot (s : Wk) (r : Int) : Wk := { s with clock := s.clock + 1, ord := s.ord.set r.toNat (s.clock + 1), low := s.low.set r.toNat (s.clock + 1), stack := s.stack ++ [⟨r, -1⟩] }
structure Keeps (N : Nat) (E : List S43) (J : Wk → List Fr → Prop) : Prop where
 skip : ∀ s p R, IA N E s (p :: R) → J s (p :: R) → rd s.next p.v < ((arcsOf E p.v).length : Int) → Tk s (rd_T51 (arcsOf E p.v) (rd s.next p.v)).f1 → J (aNx s p) (p :: R)
 back : ∀ s p R a e, IA N E s (p :: R) → J s (p :: R) → rd s.next p.v < ((arcsOf E p.v).length : Int) → rd_T51 (arcsOf E p.v) (rd s.next p.v) = ⟨a, e⟩ → At E e p.v a → ¬ Tk s e → rd s.ord a ≠ 0 → J (sBack s p a e) ({ p with seg := p.seg ++ [e] } :: R)
 push : ∀ s p R x e, IA N E s (p :: R) → J s (p :: R) → rd s.next p.v < ((arcsOf E p.v).length : Int) → rd_T51 (arcsOf E p.v) (rd s.next p.v) = ⟨x, e⟩ → At E e p.v x → ¬ Tk s e → rd s.ord x = 0 → J (sPush s p x e) (⟨x, e, [e]⟩ :: p :: R)
 root : ∀ s c, IA N E s [c] → J s [c] → rd s.next c.v = ((arcsOf E c.v).length : Int) → J { s with stack := s.stack.take 0 } []
 merge : ∀ s c p R, IA N E s (c :: p :: R) → J s (c :: p :: R) → rd s.next c.v = ((arcsOf E c.v).length : Int) → rd s.low c.v < rd s.ord p.v → J (stM s c p R) (pM c p :: R)
 emit : ∀ s c p R, IA N E s (c :: p :: R) → J s (c :: p :: R) → rd s.next c.v = ((arcsOf E c.v).length : Int) → rd s.ord p.v ≤ rd s.low c.v → J (stE E s c p R) (p :: R)
 begin : ∀ s r, IA N E s [] → J s [] → 0 ≤ r → r < (N : Int) → rd s.ord r = 0 → J (sRoot s r) [⟨r, -1, []⟩]
section
variable {N : Nat} {E : List S43} {s : Wk} {F R : List Fr} {p c : Fr}
theorem enter_eq (hN : N ≤ 1048576) (s1 : Wk) (x e : Int) (x0 : 0 ≤ x) (x1 : x < (N : Int)) (lo : s1.ord.length = N) (ll : s1.low.length = N) (hs : s1.stack.length ≤ N) (c0 : 0 ≤ s1.clock) (c1 : s1.clock ≤ N) :
  wkEnter s1 x e = some { s1 with clock := s1.clock + 1, ord := s1.ord.set x.toNat (s1.clock + 1), low := s1.low.set x.toNat (s1.clock + 1), stack := s1.stack ++ [⟨x, e⟩] } := by
 unfold wkEnter
 rw [if_pos ⟨x0, by rw [lo]; exact x1, by rw [ll]; exact x1, by omega⟩, w64 (by omega) (by omega)]
theorem arc_eq (hR : Rt N E) (h : IA N E s (p :: R)) (hlt : rd s.next p.v < ((arcsOf E p.v).length : Int)) :
  wkArc { s with next := s.next.set p.v.toNat (wrap64 (rd s.next p.v + 1)) } p.v (rd_T51 (arcsOf E p.v) (rd s.next p.v)) =
   if Tk s (rd_T51 (arcsOf E p.v) (rd s.next p.v)).f1 then some (aNx s p)
   else if rd s.ord (rd_T51 (arcsOf E p.v) (rd s.next p.v)).f0 = 0 then some (sPush s p (rd_T51 (arcsOf E p.v) (rd s.next p.v)).f0 (rd_T51 (arcsOf E p.v) (rd s.next p.v)).f1)
   else some (sBack s p (rd_T51 (arcsOf E p.v) (rd s.next p.v)).f0 (rd_T51 (arcsOf E p.v) (rd s.next p.v)).f1) := by
 obtain ⟨p0, p1, p2⟩ := h.inF p (List.mem_cons_self ..)
 have hx := h.nx p.v p0 p1
 have hal := arcsA_len E 0 p.v
 have hE1 := hR.E1
 have hN1 := hR.N1
 have hlen : ((arcsOf E p.v).length : Int) ≤ 10000000 := by unfold arcsOf; omega
 have hm := arc_at.1 (rd51_mem (arcsOf E p.v) (rd s.next p.v) hx.1 hlt)
 generalize rd_T51 (arcsOf E p.v) (rd s.next p.v) = a at hm ⊢
 obtain ⟨-, a0, a1⟩ := hm.inn hR.ends
 obtain ⟨e0, e1⟩ := hm.rng
 rw [w64 (by omega) (by omega)]
 unfold wkArc
 dsimp only
 rw [if_pos ⟨e0, by rw [h.lt]; exact e1⟩]
 by_cases ht : rdOf false s.taken a.f1 = true
 ·rw [if_pos ht, if_pos (show Tk s a.f1 from ht)]; rfl
 ·rw [if_neg ht, if_neg (show ¬ Tk s a.f1 from ht), if_pos (by have := (h.elen hR).1; omega)]
  unfold wkFar
  dsimp only
  rw [if_pos ⟨a0, by rw [h.lo]; exact a1, by rw [h.ll]; exact p1⟩]
  by_cases ho : rd s.ord a.f0 = 0
  ·rw [if_pos ho, if_pos ho]
   exact enter_eq hN1 { s with next := s.next.set p.v.toNat (rd s.next p.v + 1), taken := s.taken.set a.f1.toNat true, edges := s.edges ++ [a.f1] } a.f0 a.f1 a0 a1 h.lo h.ll (by show s.stack.length ≤ N; rw [h.stk, stOf_len]; exact h.slen) h.c0 h.clkN
  ·rw [if_neg ho, if_neg ho]; rfl
theorem loop_ev (hR : Rt N E) {J : Wk → List Fr → Prop} (hJ : Keeps N E J) : ∀ (n : Nat) (s : Wk) (F : List Fr), IA N E s F → J s F → 2 * sumTo (remOf E s) N + F.length ≤ n →
  ∃ s', Ev (fun k => wkLoop (wkLeave wkOff (wkMore (rowsA N (arcsOf E))) (rowsA N (arcsOf E))) (rowsA N (arcsOf E)) k s) s' ∧ IA N E s' [] ∧ J s' [] := by
 intro n
 induction n with
 | zero =>
  intro s F h hj hn
  obtain rfl : F = [] := List.eq_nil_of_length_eq_zero (by omega)
  refine ⟨s, Ev.step (fun k => ?_) (Ev.now _), h, hj⟩
  rw [wkLoop, if_pos (by rw [h.stk]; rfl)]
 | succ n ih =>
  intro s F h hj hn
  cases F with
  | nil =>
   refine ⟨s, Ev.step (fun k => ?_) (Ev.now _), h, hj⟩
   rw [wkLoop, if_pos (by rw [h.stk]; rfl)]
  | cons p R =>
   obtain ⟨p0, p1, p2⟩ := h.inF p (List.mem_cons_self ..)
   have hx := h.nx p.v p0 p1
   have hl : s.stack.length = R.length + 1 := by rw [h.stk, stOf_len, zLc]
   have htop : (rd_T51 s.stack ((s.stack.length - 1 : Nat) : Int)).f0 = p.v := by rw [hl, Nat.add_sub_cancel, h.stk, stOf_top]; rfl
   have step : ∀ k, wkLoop (wkLeave wkOff (wkMore (rowsA N (arcsOf E))) (rowsA N (arcsOf E))) (rowsA N (arcsOf E)) (k + 1) s =
     if rd s.next p.v = ((arcsOf E p.v).length : Int) then (wkLeave wkOff (wkMore (rowsA N (arcsOf E))) (rowsA N (arcsOf E)) s).bind (wkLoop (wkLeave wkOff (wkMore (rowsA N (arcsOf E))) (rowsA N (arcsOf E))) (rowsA N (arcsOf E)) k)
     else (wkArc { s with next := s.next.set p.v.toNat (wrap64 (rd s.next p.v + 1)) } p.v (rd_T51 (arcsOf E p.v) (rd s.next p.v))).bind (wkLoop (wkLeave wkOff (wkMore (rowsA N (arcsOf E))) (rowsA N (arcsOf E))) (rowsA N (arcsOf E)) k) := fun k => by
    rw [wkLoop, if_neg (by omega)]
    dsimp only
    rw [htop, if_pos ⟨p0, by rw [h.ln]; exact p1, by rw [rowsA_len]; exact p1⟩, rowsA_rd N _ _ p0 p1]
    by_cases hd : rd s.next p.v = ((arcsOf E p.v).length : Int)
    ·rw [if_pos hd, if_pos hd]
    ·rw [if_neg hd, if_neg hd, if_pos ⟨hx.1, by omega⟩]
   by_cases hd : rd s.next p.v = ((arcsOf E p.v).length : Int)
   ·cases R with
    | nil =>
     obtain ⟨s', h1, h2, h3⟩ := ih { s with stack := s.stack.take 0 } [] (h.endRoot hd) (hJ.root s p h hj hd) (by
      simp only [zLn, zLc] at hn ⊢
      show 2 * sumTo (remOf E s) N + 0 ≤ n
      omega)
     refine ⟨s', Ev.step (fun k => ?_) h1, h2, h3⟩
     rw [step k, if_pos hd, leave_eq hR h, zOb]
    | cons q R =>
     by_cases hle : rd s.ord q.v ≤ rd s.low p.v
     ·obtain ⟨s', h1, h2, h3⟩ := ih (stE E s p q R) (q :: R) (h.emit hd) (hJ.emit s p q R h hj hd hle) (by
       simp only [zLc] at hn ⊢
       show 2 * sumTo (remOf E s) N + _ ≤ n
       omega)
      refine ⟨s', Ev.step (fun k => ?_) h1, h2, h3⟩
      rw [step k, if_pos hd, leave_eq hR h]
      dsimp only
      rw [if_pos hle, zOb]
     ·obtain ⟨s', h1, h2, h3⟩ := ih (stM s p q R) (pM p q :: R) (h.merge hd (by omega)) (hJ.merge s p q R h hj hd (by omega)) (by
       simp only [zLc] at hn ⊢
       show 2 * sumTo (remOf E s) N + _ ≤ n
       omega)
      refine ⟨s', Ev.step (fun k => ?_) h1, h2, h3⟩
      rw [step k, if_pos hd, leave_eq hR h]
      dsimp only
      rw [if_neg hle, zOb]
   ·have hlt : rd s.next p.v < ((arcsOf E p.v).length : Int) := by omega
    have hm := arc_at.1 (rd51_mem (arcsOf E p.v) (rd s.next p.v) hx.1 hlt)
    have heq := arc_eq hR h hlt
    have rn : ∀ v, 0 ≤ v → rd (s.next.set p.v.toNat (rd s.next p.v + 1)) v = if v = p.v then rd s.next p.v + 1 else rd s.next v := fun v v0 => rd_set _ _ _ _ p0 (by rw [h.ln]; exact p1) v0
    have hsum : ∀ s2 : Wk, s2.next = s.next.set p.v.toNat (rd s.next p.v + 1) → sumTo (remOf E s2) N + 1 = sumTo (remOf E s) N := fun s2 h2 => by
     refine sum_less p0 ?_ N p1 (fun v v0 v1 hv => ?_)
     ·unfold remOf; rw [h2, rn _ p0, if_pos rfl]; omega
     ·unfold remOf; rw [h2, rn _ v0, if_neg hv]
    by_cases ht : Tk s (rd_T51 (arcsOf E p.v) (rd s.next p.v)).f1
    ·rw [if_pos ht] at heq
     obtain ⟨s', h1, h2, h3⟩ := ih (aNx s p) (p :: R) (h.skip hlt ht) (hJ.skip s p R h hj hlt ht) (by have := hsum (aNx s p) rfl; omega)
     refine ⟨s', Ev.step (fun k => ?_) h1, h2, h3⟩
     rw [step k, if_neg hd, heq, zOb]
    ·rw [if_neg ht] at heq
     by_cases ho : rd s.ord (rd_T51 (arcsOf E p.v) (rd s.next p.v)).f0 = 0
     ·rw [if_pos ho] at heq
      obtain ⟨s', h1, h2, h3⟩ := ih (sPush s p (rd_T51 (arcsOf E p.v) (rd s.next p.v)).f0 (rd_T51 (arcsOf E p.v) (rd s.next p.v)).f1) (⟨(rd_T51 (arcsOf E p.v) (rd s.next p.v)).f0, (rd_T51 (arcsOf E p.v) (rd s.next p.v)).f1, [(rd_T51 (arcsOf E p.v) (rd s.next p.v)).f1]⟩ :: p :: R) (h.push hR hlt rfl hm ht ho) (hJ.push s p R _ _ h hj hlt rfl hm ht ho) (by
       have := hsum (sPush s p (rd_T51 (arcsOf E p.v) (rd s.next p.v)).f0 (rd_T51 (arcsOf E p.v) (rd s.next p.v)).f1) rfl
       simp only [zLc] at hn ⊢
       omega)
      refine ⟨s', Ev.step (fun k => ?_) h1, h2, h3⟩
      rw [step k, if_neg hd, heq, zOb]
     ·rw [if_neg ho] at heq
      obtain ⟨s', h1, h2, h3⟩ := ih (sBack s p (rd_T51 (arcsOf E p.v) (rd s.next p.v)).f0 (rd_T51 (arcsOf E p.v) (rd s.next p.v)).f1) ({ p with seg := p.seg ++ [(rd_T51 (arcsOf E p.v) (rd s.next p.v)).f1] } :: R) (h.goBack hR hlt rfl hm ht ho) (hJ.back s p R _ _ h hj hlt rfl hm ht ho) (by
       have := hsum (sBack s p (rd_T51 (arcsOf E p.v) (rd s.next p.v)).f0 (rd_T51 (arcsOf E p.v) (rd s.next p.v)).f1) rfl
       simp only [zLc] at hn ⊢
       omega)
      refine ⟨s', Ev.step (fun k => ?_) h1, h2, h3⟩
      rw [step k, if_neg hd, heq, zOb]
theorem run_ev (hR : Rt N E) {J : Wk → List Fr → Prop} (hJ : Keeps N E J) (h : IA N E s []) (hj : J s []) {r : Int} (r0 : 0 ≤ r) (r1 : r < (N : Int)) (hr : rd s.ord r = 0) :
  ∃ s', Ev (fun k => wkRun (wkLeave wkOff (wkMore (rowsA N (arcsOf E))) (rowsA N (arcsOf E))) (rowsA N (arcsOf E)) k s r) s' ∧ IA N E s' [] ∧ J s' [] := by
 obtain ⟨s', h1, h2, h3⟩ := loop_ev hR hJ _ (sRoot s r) [⟨r, -1, []⟩] (h.begin hR r0 r1 hr) (hJ.begin s r h hj r0 r1 hr) (Nat.le_refl _)
 refine ⟨s', Ev.congr (fun k => ?_) h1, h2, h3⟩
 unfold wkRun
 rw [enter_eq hR.N1 s r (-1) r0 r1 h.lo h.ll (by rw [h.stk]; exact Nat.zero_le _) h.c0 h.clkN, zOb]
 rfl
theorem all_ev (hR : Rt N E) {J : Wk → List Fr → Prop} (hJ : Keeps N E J) (hmet : ∀ v, 0 ≤ v → Keeps N E (fun s F => J s F ∧ rd s.ord v ≠ 0)) : ∀ (d v : Nat) (s : Wk), N - v = d → v ≤ N → IA N E s [] → J s [] → (∀ u : Int, 0 ≤ u → u < (v : Int) → rd s.ord u ≠ 0) →
  ∃ s', Ev (fun k => wkAll (wkRun (wkLeave wkOff (wkMore (rowsA N (arcsOf E))) (rowsA N (arcsOf E))) (rowsA N (arcsOf E)) k) d v s) s' ∧ IA N E s' [] ∧ J s' [] ∧ ∀ u : Int, 0 ≤ u → u < (N : Int) → rd s'.ord u ≠ 0 := by
 intro d
 induction d with
 | zero =>
  intro v s hd hv h hj hm
  exact ⟨s, Ev.congr (fun k => by rw [wkAll]) (Ev.now _), h, hj, fun u u0 u1 => hm u u0 (by omega)⟩
 | succ d ih =>
  intro v s hd hv h hj hm
  have hlt : (v : Int) < (s.ord.length : Int) := by rw [h.lo]; omega
  by_cases hz : rd s.ord (v : Int) = 0
  ·-- what was met stays met, whatever J keeps
   have key : ∃ s1, Ev (fun k => wkRun (wkLeave wkOff (wkMore (rowsA N (arcsOf E))) (rowsA N (arcsOf E))) (rowsA N (arcsOf E)) k s v) s1 ∧ IA N E s1 [] ∧ J s1 [] ∧ ∀ u : Int, 0 ≤ u → u < ((v + 1 : Nat) : Int) → rd s1.ord u ≠ 0 := by
    obtain ⟨s1, h1, h2, h3⟩ := run_ev hR hJ h hj (Int.natCast_nonneg v) (by omega) hz
    refine ⟨s1, h1, h2, h3, fun u u0 u1 => ?_⟩
    have hK := hmet u u0
    by_cases e : u = v
    ·subst e
     obtain ⟨s2, g1, g2, g3⟩ := loop_ev hR hK _ (sRoot s v) [⟨v, -1, []⟩] (h.begin hR (Int.natCast_nonneg v) (by omega) hz) ⟨hJ.begin s v h hj (Int.natCast_nonneg v) (by omega) hz, by
      show rd (s.ord.set (v : Int).toNat (s.clock + 1)) v ≠ 0
      rw [rd_set _ _ _ _ (by omega) (by rw [h.lo]; omega) (by omega), if_pos rfl]
      have := h.c0; omega⟩ (Nat.le_refl _)
     have g4 : Ev (fun k => wkRun (wkLeave wkOff (wkMore (rowsA N (arcsOf E))) (rowsA N (arcsOf E))) (rowsA N (arcsOf E)) k s v) s2 := Ev.congr (fun k => by
      unfold wkRun
      rw [enter_eq hR.N1 s v (-1) (Int.natCast_nonneg v) (by omega) h.lo h.ll (by rw [h.stk]; exact Nat.zero_le _) h.c0 h.clkN, zOb]
      rfl) g1
     obtain ⟨K1, k1⟩ := h1
     obtain ⟨K2, k2⟩ := g4
     have e3 : s1 = s2 := zOi ((k1 (max K1 K2) (Nat.le_max_left _ _)).symm.trans (k2 (max K1 K2) (Nat.le_max_right _ _)))
     rw [e3]; exact g3.2
    ·obtain ⟨s2, g1, g2, g3⟩ := run_ev hR hK h ⟨hj, hm u u0 (by omega)⟩ (Int.natCast_nonneg v) (by omega) hz
     obtain ⟨K1, k1⟩ := h1
     obtain ⟨K2, k2⟩ := g1
     have e3 : s1 = s2 := zOi ((k1 (max K1 K2) (Nat.le_max_left _ _)).symm.trans (k2 (max K1 K2) (Nat.le_max_right _ _)))
     rw [e3]; exact g3.2
   obtain ⟨s1, h1, h2, h3, h4⟩ := key
   obtain ⟨s', g1, g2⟩ := ih (v + 1) s1 (by omega) (by omega) h2 h3 h4
   refine ⟨s', Ev.congr (fun k => ?_) (Ev.bind h1 (f:=fun k t => wkAll (wkRun (wkLeave wkOff (wkMore (rowsA N (arcsOf E))) (rowsA N (arcsOf E))) (rowsA N (arcsOf E)) k) d (v + 1) t) g1), g2⟩
   rw [wkAll, if_pos hlt, if_pos hz]
  ·obtain ⟨s', g1, g2⟩ := ih (v + 1) s (by omega) (by omega) h hj (fun u u0 u1 => by
    by_cases e : u = v
    ·rw [e]; exact hz
    ·exact hm u u0 (by omega))
   refine ⟨s', Ev.congr (fun k => ?_) g1, g2⟩
   rw [wkAll, if_pos hlt, if_neg hz]
end
def dropV (E : List S43) (q : Int) : List S43 := E.filter fun e => !(e.f0 == q) && !(e.f1 == q)
theorem mem_dropV {E : List S43} {q : Int} {e : S43} : e ∈ dropV E q ↔ e ∈ E ∧ e.f0 ≠ q ∧ e.f1 ≠ q := by
 unfold dropV
 rw [List.mem_filter]
 simp
theorem At.avoid {E : List S43} {j v a q : Int} (h : At E j v a) (hv : v ≠ q) (ha : a ≠ q) : Cn (dropV E q) v a := by
 obtain ⟨i, hi, -, ⟨h1, h2⟩ | ⟨h1, h2⟩⟩ := h
 ·rw [← h1, ← h2]; exact .fwd _ (mem_dropV.2 ⟨List.getElem_mem hi, by rw [h1]; exact hv, by rw [h2]; exact ha⟩) (.refl _)
 ·rw [← h1, ← h2]; exact .bwd _ (mem_dropV.2 ⟨List.getElem_mem hi, by rw [h2]; exact ha, by rw [h1]; exact hv⟩) (.refl _)
def Rel (E : List S43) (i k : Int) : Prop := ∃ v a b, At E i v a ∧ At E k v b ∧ Cn (dropV E v) a b
theorem Rel.symm {E : List S43} {i k : Int} (h : Rel E i k) : Rel E k i := by
 obtain ⟨v, a, b, h1, h2, h3⟩ := h
 exact ⟨v, b, a, h2, h1, h3.symm⟩
inductive RC (E : List S43) : Int → Int → Prop
 | refl (i : Int) : RC E i i
 | step {i j k : Int} : RC E i j → Rel E j k → RC E i k
theorem RC.trans {E : List S43} {i j k : Int} (h1 : RC E i j) (h2 : RC E j k) : RC E i k := by
 induction h2 with
 | refl => exact h1
 | step _ hr ih => exact .step ih hr
theorem RC.symm {E : List S43} {i j : Int} (h : RC E i j) : RC E j i := by
 induction h with
 | refl => exact .refl _
 | step _ hr ih => exact RC.trans (.step (.refl _) hr.symm) ih
theorem RC.inn {E : List S43} {b : List Int} (hb : ∀ i ∈ b, ∀ k, Rel E i k → k ∈ b) {i k : Int} (h : RC E i k) (hi : i ∈ b) : k ∈ b := by
 induction h with
 | refl => exact hi
 | step _ hr ih => exact hb _ ih _ hr
structure IB (N : Nat) (E : List S43) (s : Wk) (F : List Fr) : Prop where
 sg : ∀ P f R, F = P ++ f :: R → ∀ j ∈ f.seg, RC E j f.by_ ∧ (∃ v a, At E j v a ∧ rd s.ord f.v ≤ rd s.ord v) ∧ ∀ v a, At E j v a → ∀ g ∈ P, rd s.ord v < rd s.ord g.v
 l1 : ∀ P f R, F = P ++ f :: R → ∃ g ∈ f :: R, rd s.ord g.v = rd s.low f.v ∧ ∀ q, 0 ≤ q → rd s.ord q < rd s.ord f.v → q ≠ g.v → Cn (dropV E q) f.v g.v
 l2 : ∀ P f R, F = P ++ f :: R → ∀ j x y, At E j x y → Tk s j → rd s.ord f.v ≤ rd s.ord x → j = f.by_ ∨ ∃ g ∈ f :: P, rd s.low g.v ≤ rd s.ord y
 nc : ∀ P c p R, F = P ++ c :: p :: R → ∀ z, 0 ≤ z → z < (N : Int) → rd s.ord p.v < rd s.ord z → rd s.ord z < rd s.ord c.v → ∀ j y, At E j z y → Tk s j ∧ rd s.ord y < rd s.ord c.v
 bk : ∀ b ∈ s.blocks, (∀ i ∈ b, ∀ k, Rel E i k → k ∈ b) ∧ ∀ i ∈ b, ∀ k ∈ b, RC E i k
 c1 : ∀ v, 0 ≤ v → v < (N : Int) → rdOf false s.cut v = true → ∃ b ∈ s.blocks, ∃ i a k a', i ∈ b ∧ At E i v a ∧ At E k v a' ∧ k ∉ b
 c2 : ∀ b ∈ s.blocks, ∀ v i a k a', i ∈ b → At E i v a → At E k v a' → k ∉ b → rdOf false s.cut v = true
section
variable {N : Nat} {E : List S43} {s : Wk} {F R : List Fr} {p c : Fr}
theorem tree_path {x : Int} : ∀ (R : List Fr) (q : Fr), (∀ P c p R', q :: R = P ++ c :: p :: R' → At E c.by_ p.v c.v) → (∀ f ∈ q :: R, f.v ≠ x) → ∀ g ∈ q :: R, Cn (dropV E x) g.v q.v
 | [], q, _, _, g, hg => by rw [List.mem_singleton] at hg; rw [hg]; exact .refl _
 | r :: R, q, ht, hx, g, hg => by
  rcases List.mem_cons.1 hg with rfl | hg
  ·exact .refl _
  ·have h1 := tree_path R r (fun P c p R' e => ht (q :: P) c p R' (by rw [e]; rfl)) (fun f hf => hx f (List.mem_cons_of_mem _ hf)) g hg
   exact h1.trans ((ht [] q r R rfl).avoid (hx r (by simp)) (hx q (by simp)))
theorem IB.skip (_ : IA N E s (p :: R)) (hj : IB N E s (p :: R)) : IB N E (aNx s p) (p :: R) := ⟨hj.sg, hj.l1, hj.l2, hj.nc, hj.bk, hj.c1, hj.c2⟩
theorem IB.root (hj : IB N E s [c]) : IB N E { s with stack := s.stack.take 0 } [] :=
 ⟨fun P f R e => by simp at e, fun P f R e => by simp at e, fun P f R e => by simp at e, fun P a b R e => by simp at e, hj.bk, hj.c1, hj.c2⟩
theorem IB.begin (hR : Rt N E) (h : IA N E s []) (hj : IB N E s []) {r : Int} (r0 : 0 ≤ r) (r1 : r < (N : Int)) (hr : rd s.ord r = 0) : IB N E (sRoot s r) [⟨r, -1, []⟩] := by
 have ro : ∀ v, 0 ≤ v → rd (s.ord.set r.toNat (s.clock + 1)) v = if v = r then s.clock + 1 else rd s.ord v := fun v v0 => rd_set _ _ _ _ r0 (by rw [h.lo]; exact r1) v0
 have rl : ∀ v, 0 ≤ v → rd (s.low.set r.toNat (s.clock + 1)) v = if v = r then s.clock + 1 else rd s.low v := fun v v0 => rd_set _ _ _ _ r0 (by rw [h.ll]; exact r1) v0
 have one : ∀ {P : List Fr} {f : Fr} {R : List Fr}, [(⟨r, -1, []⟩ : Fr)] = P ++ f :: R → P = [] ∧ f = ⟨r, -1, []⟩ ∧ R = [] := by
  intro P f R e
  cases P with
  | nil => simp at e; exact ⟨rfl, e.1.symm, e.2⟩
  | cons z P => simp at e
 refine ⟨fun P f R e => ?_, fun P f R e => ?_, fun P f R e => ?_, fun P a b R e => ?_, hj.bk, hj.c1, hj.c2⟩
 ·obtain ⟨rfl, rfl, rfl⟩ := one e
  intro j hj; cases hj
 ·obtain ⟨rfl, rfl, rfl⟩ := one e
  refine ⟨_, List.mem_cons_self .., ?_, fun q _ _ _ => .refl _⟩
  show rd (s.ord.set r.toNat (s.clock + 1)) r = rd (s.low.set r.toNat (s.clock + 1)) r
  rw [ro _ r0, rl _ r0, if_pos rfl, if_pos rfl]
 ·obtain ⟨rfl, rfl, rfl⟩ := one e
  intro j x y hx ht hle
  exfalso
  have hle : rd (s.ord.set r.toNat (s.clock + 1)) r ≤ rd (s.ord.set r.toNat (s.clock + 1)) x := hle
  obtain ⟨⟨x0, x1⟩, -⟩ := hx.inn hR.ends
  rw [ro _ r0, ro _ x0, if_pos rfl] at hle
  by_cases ex : x = r
  ·exact h.ent j x y hx ht (by rw [ex]; exact hr)
  ·rw [if_neg ex] at hle
   have := h.ordr x x0 x1
   omega
 ·have := congrArg List.length e
  simp at this
  omega
theorem IB.back (hR : Rt N E) (h : IA N E s (p :: R)) (hj : IB N E s (p :: R)) {a e : Int} (hlt : rd s.next p.v < ((arcsOf E p.v).length : Int)) (he : At E e p.v a) (hu : ¬ Tk s e) (ha : rd s.ord a ≠ 0) : IB N E (sBack s p a e) ({ p with seg := p.seg ++ [e] } :: R) := by
 obtain ⟨p0, p1, p2⟩ := h.inF p (List.mem_cons_self ..)
 obtain ⟨-, a0, a1⟩ := he.inn hR.ends
 obtain ⟨e0, e1⟩ := he.rng
 obtain ⟨g, hg, hga⟩ := h.back hR he hu ha
 have rt := rdb_tk h e0 e1
 have hasc := List.pairwise_cons.1 h.asc
 have rl : ∀ v x, 0 ≤ v → rd (s.low.set p.v.toNat x) v = if v = p.v then x else rd s.low v := fun v x v0 => rd_set _ _ _ _ p0 (by rw [h.ll]; exact p1) v0
 have hap : rd s.ord a < rd s.ord p.v := by rw [← hga]; exact hasc.1 g hg
 obtain ⟨L, hL⟩ : ∃ L, L = (if rd s.ord a < rd s.low p.v then rd s.ord a else rd s.low p.v) := ⟨_, rfl⟩
 have hL1 : L ≤ rd s.ord a ∧ L ≤ rd s.low p.v := by rw [hL]; split <;> omega
 have lp : rd (sBack s p a e).low p.v = L := by show rd (s.low.set p.v.toNat _) p.v = L; rw [rl _ _ p0, if_pos rfl, hL]
 have lf : ∀ f ∈ R, rd (sBack s p a e).low f.v = rd s.low f.v := fun f hf => by
  show rd (s.low.set p.v.toNat _) f.v = _
  rw [rl _ _ (h.inF f (List.mem_cons_of_mem _ hf)).1, if_neg (fun e => by have := hasc.1 f hf; rw [e] at this; omega)]
 -- the frame below
 obtain ⟨q, R', rfl⟩ : ∃ q R', R = q :: R' := by
  cases R with
  | nil => cases hg
  | cons q R' => exact ⟨q, R', rfl⟩
 have htree := h.tree [] p q R' rfl
 have hpby : Tk s p.by_ := by
  obtain ⟨hA, t, ht⟩ := htree
  refine (h.part _ hA.rng.1 hA.rng.2).2 (.inl ?_)
  rw [h.edg]
  exact mem_edOf.2 ⟨p, List.mem_cons_self .., by rw [ht]; exact List.mem_cons_self ..⟩
 have hqa : q.v ≠ a := fun e9 => by
  have h1 : e = p.by_ := At.one hR he (by rw [← e9]; exact htree.1.swap)
  exact hu (by rw [h1]; exact hpby)
 have hpath : Cn (dropV E p.v) a q.v := by
  rw [← hga]
  refine tree_path R' q (fun P c p' R'' e9 => (h.tree (p :: P) c p' R'' (by rw [e9]; rfl)).1) (fun f hf e9 => ?_) g hg
  have := hasc.1 f hf
  rw [e9] at this; omega
 have hrel : Rel E e p.by_ := ⟨p.v, a, q.v, he, htree.1.swap, hpath⟩
 have cases_ : ∀ {P : List Fr} {f : Fr} {R'' : List Fr}, (({ p with seg := p.seg ++ [e] } : Fr) :: q :: R') = P ++ f :: R'' → (P = [] ∧ f = { p with seg := p.seg ++ [e] } ∧ R'' = q :: R') ∨ ∃ P', P = { p with seg := p.seg ++ [e] } :: P' ∧ q :: R' = P' ++ f :: R'' := by
  intro P f R'' e9
  cases P with
  | nil => simp only [List.nil_append, List.cons.injEq] at e9; exact .inl ⟨rfl, e9.1.symm, e9.2.symm⟩
  | cons z P => simp only [List.cons_append, List.cons.injEq] at e9; exact .inr ⟨P, by rw [← e9.1], e9.2⟩
 refine ⟨fun P f R'' e9 => ?_, fun P f R'' e9 => ?_, fun P f R'' e9 => ?_, fun P x y R'' e9 => ?_, hj.bk, hj.c1, hj.c2⟩
 ·rcases cases_ e9 with ⟨rfl, rfl, rfl⟩ | ⟨P', rfl, e8⟩
  ·intro j hm
   rcases List.mem_append.1 hm with hm | hm
   ·exact hj.sg [] p _ rfl j hm
   ·rw [List.mem_singleton] at hm
    subst hm
    exact ⟨.step (.refl _) hrel, ⟨p.v, a, he, Int.le_refl _⟩, fun v b hv g hg => by cases hg⟩
  ·intro j hm
   obtain ⟨h1, h2, h3⟩ := hj.sg (p :: P') f R'' (by rw [e8]; rfl) j hm
   refine ⟨h1, h2, fun v b hv g hg => ?_⟩
   rcases List.mem_cons.1 hg with rfl | hg
   ·exact h3 v b hv p (List.mem_cons_self ..)
   ·exact h3 v b hv g (List.mem_cons_of_mem _ hg)
 ·rcases cases_ e9 with ⟨rfl, rfl, rfl⟩ | ⟨P', rfl, e8⟩
  ·show ∃ g : Fr, g ∈ _ ∧ rd s.ord g.v = rd (sBack s p a e).low p.v ∧ ∀ x, 0 ≤ x → rd s.ord x < rd s.ord p.v → x ≠ g.v → Cn (dropV E x) p.v g.v
   rw [lp, hL]
   split
   ·refine ⟨g, List.mem_cons_of_mem _ hg, by rw [hga], fun x x0 hx hxg => ?_⟩
    rw [hga] at hxg ⊢
    exact he.avoid (fun e8 => by rw [e8] at hx; omega) (fun e8 => hxg e8.symm)
   ·obtain ⟨g2, hg2, h1, h2⟩ := hj.l1 [] p _ rfl
    rcases List.mem_cons.1 hg2 with rfl | hg2
    ·exact ⟨_, List.mem_cons_self .., h1, h2⟩
    ·exact ⟨g2, List.mem_cons_of_mem _ hg2, h1, h2⟩
  ·show ∃ g : Fr, g ∈ f :: R'' ∧ rd s.ord g.v = rd (sBack s p a e).low f.v ∧ _
   rw [lf f (by rw [e8]; simp)]
   exact hj.l1 (p :: P') f R'' (by rw [e8]; rfl)
 ·intro j x y hx ht hle
  have hle : rd s.ord f.v ≤ rd s.ord x := hle
  show j = f.by_ ∨ ∃ g : Fr, g ∈ f :: P ∧ rd (sBack s p a e).low g.v ≤ rd s.ord y
  rcases cases_ e9 with ⟨rfl, rfl, rfl⟩ | ⟨P', rfl, e8⟩
  ·rcases (rt j hx.rng.1).1 ht with rfl | ht
   ·right
    rcases he.two hx with ⟨h1, h2⟩ | ⟨h1, h2⟩
    ·exact ⟨_, List.mem_cons_self .., by show rd (sBack s p a j).low p.v ≤ _; rw [lp, h2]; exact hL1.1⟩
    ·exfalso; rw [h1] at hle; have hle : rd s.ord p.v ≤ rd s.ord a := hle; omega
   ·rcases hj.l2 [] p _ rfl j x y hx ht hle with h1 | ⟨g2, hg2, h1⟩
    ·exact .inl h1
    ·right
     rw [List.mem_singleton] at hg2
     subst hg2
     exact ⟨_, List.mem_cons_self .., by show rd (sBack s g2 a e).low g2.v ≤ _; rw [lp]; omega⟩
  ·have hfR : f ∈ q :: R' := by rw [e8]; simp
   rcases (rt j hx.rng.1).1 ht with rfl | ht
   ·right
    rcases he.two hx with ⟨h1, h2⟩ | ⟨h1, h2⟩
    ·exact ⟨_, List.mem_cons_of_mem _ (List.mem_cons_self ..), by show rd (sBack s p a j).low p.v ≤ _; rw [lp, h2]; exact hL1.1⟩
    ·refine ⟨f, List.mem_cons_self .., ?_⟩
     rw [lf f hfR, h2]
     have := (h.low (p :: P') f R'' (by rw [e8]; rfl)).1
     have := hasc.1 f hfR
     omega
   ·rcases hj.l2 (p :: P') f R'' (by rw [e8]; rfl) j x y hx ht hle with h1 | ⟨g2, hg2, h1⟩
    ·exact .inl h1
    ·right
     rcases List.mem_cons.1 hg2 with rfl | hg2
     ·exact ⟨g2, List.mem_cons_self .., by rw [lf g2 hfR]; exact h1⟩
     ·rcases List.mem_cons.1 hg2 with rfl | hg2
      ·exact ⟨_, List.mem_cons_of_mem _ (List.mem_cons_self ..), by show rd (sBack s g2 a e).low g2.v ≤ _; rw [lp]; omega⟩
      ·exact ⟨g2, List.mem_cons_of_mem _ (List.mem_cons_of_mem _ hg2), by rw [lf g2 (by rw [e8]; exact List.mem_append_left _ hg2)]; exact h1⟩
 ·have htk : ∀ j z b, At E j z b → Tk s j → Tk (sBack s p a e) j := fun j z b hz ht => (rt j hz.rng.1).2 (.inr ht)
  rcases cases_ e9 with ⟨rfl, rfl, e8⟩ | ⟨P', rfl, e8⟩
  ·simp only [List.cons.injEq] at e8
   obtain ⟨rfl, rfl⟩ := e8
   intro z z0 z1 h1 h2 j b hz
   obtain ⟨h3, h4⟩ := hj.nc [] p y R'' rfl z z0 z1 h1 h2 j b hz
   exact ⟨htk j z b hz h3, h4⟩
  ·intro z z0 z1 h1 h2 j b hz
   obtain ⟨h3, h4⟩ := hj.nc (p :: P') x y R'' (by rw [e8]; rfl) z z0 z1 h1 h2 j b hz
   exact ⟨htk j z b hz h3, h4⟩
end
section
variable {N : Nat} {E : List S43} {s : Wk} {F R : List Fr} {p c : Fr}
theorem seg_tk (h : IA N E s F) {f : Fr} (hf : f ∈ F) {j : Int} (hj : j ∈ f.seg) : Tk s j := by
 have hm : j ∈ s.edges := by rw [h.edg]; exact mem_edOf.2 ⟨f, hf, hj⟩
 have hr := h.rng j (List.mem_append_left _ hm)
 exact (h.part j hr.1 hr.2).2 (.inl hm)
theorem IB.push (hR : Rt N E) (h : IA N E s (p :: R)) (hj : IB N E s (p :: R)) {x e : Int} (he : At E e p.v x) (hx : rd s.ord x = 0) : IB N E (sPush s p x e) (⟨x, e, [e]⟩ :: p :: R) := by
 obtain ⟨p0, p1, p2⟩ := h.inF p (List.mem_cons_self ..)
 obtain ⟨-, x0, x1⟩ := he.inn hR.ends
 obtain ⟨e0, e1⟩ := he.rng
 have c0 := h.c0
 have ro : ∀ v, 0 ≤ v → rd (sPush s p x e).ord v = if v = x then s.clock + 1 else rd s.ord v := fun v v0 => rd_set _ _ _ _ x0 (by rw [h.lo]; exact x1) v0
 have rl : ∀ v, 0 ≤ v → rd (sPush s p x e).low v = if v = x then s.clock + 1 else rd s.low v := fun v v0 => rd_set _ _ _ _ x0 (by rw [h.ll]; exact x1) v0
 have rt : ∀ j, 0 ≤ j → (Tk (sPush s p x e) j ↔ j = e ∨ Tk s j) := rdb_tk h e0 e1
 have rx : rd (sPush s p x e).ord x = s.clock + 1 := by rw [ro x x0, if_pos rfl]
 have fx : ∀ f ∈ p :: R, f.v ≠ x := fun f hf ex => (h.inF f hf).2.2 (by rw [ex]; exact hx)
 have rof : ∀ f ∈ p :: R, rd (sPush s p x e).ord f.v = rd s.ord f.v := fun f hf => by rw [ro _ (h.inF f hf).1, if_neg (fx f hf)]
 have rlf : ∀ f ∈ p :: R, rd (sPush s p x e).low f.v = rd s.low f.v := fun f hf => by rw [rl _ (h.inF f hf).1, if_neg (fx f hf)]
 have hclk : ∀ f ∈ p :: R, rd s.ord f.v ≤ s.clock := fun f hf => (h.ordr f.v (h.inF f hf).1 (h.inF f hf).2.1).2
 have hasc := List.pairwise_cons.1 h.asc
 have hle : ∀ f ∈ p :: R, rd s.ord f.v ≤ rd s.ord p.v := fun f hf => by
  rcases List.mem_cons.1 hf with rfl | hf
  ·exact Int.le_refl _
  ·have := hasc.1 f hf; omega
 have old : ∀ {j v a}, At E j v a → Tk s j → v ≠ x := fun hv ht ex => h.ent _ _ _ hv ht (by rw [ex]; exact hx)
 have cases_ : ∀ {P : List Fr} {f : Fr} {R'' : List Fr}, ((⟨x, e, [e]⟩ : Fr) :: p :: R) = P ++ f :: R'' → (P = [] ∧ f = ⟨x, e, [e]⟩ ∧ R'' = p :: R) ∨ ∃ P', P = ⟨x, e, [e]⟩ :: P' ∧ p :: R = P' ++ f :: R'' := by
  intro P f R'' e9
  cases P with
  | nil => simp only [List.nil_append, List.cons.injEq] at e9; exact .inl ⟨rfl, e9.1.symm, e9.2.symm⟩
  | cons z P => simp only [List.cons_append, List.cons.injEq] at e9; exact .inr ⟨P, by rw [← e9.1], e9.2⟩
 refine ⟨fun P f R'' e9 => ?_, fun P f R'' e9 => ?_, fun P f R'' e9 => ?_, fun P y q R'' e9 => ?_, hj.bk, hj.c1, hj.c2⟩
 ·rcases cases_ e9 with ⟨rfl, rfl, rfl⟩ | ⟨P', rfl, e8⟩
  ·intro j hm
   have hm : j ∈ [e] := hm
   rw [List.mem_singleton] at hm
   subst hm
   exact ⟨.refl _, ⟨x, p.v, he.swap, Int.le_refl _⟩, fun v b hv g hg => by cases hg⟩
  ·intro j hm
   have hf : f ∈ p :: R := by rw [e8]; simp
   have htk := seg_tk h hf hm
   obtain ⟨h1, ⟨v, a, h2, h3⟩, h4⟩ := hj.sg P' f R'' e8 j hm
   refine ⟨h1, ⟨v, a, h2, ?_⟩, fun v b hv g hg => ?_⟩
   ·rw [rof f hf, ro v (h2.inn hR.ends).1.1, if_neg (old h2 htk)]; exact h3
   ·rw [ro v (hv.inn hR.ends).1.1, if_neg (old hv htk)]
    rcases List.mem_cons.1 hg with rfl | hg
    ·rw [rx]
     have := h.ordr v (hv.inn hR.ends).1.1 (hv.inn hR.ends).1.2
     omega
    ·rw [rof g (by rw [e8]; exact List.mem_append_left _ hg)]
     exact h4 v b hv g hg
 ·rcases cases_ e9 with ⟨rfl, rfl, rfl⟩ | ⟨P', rfl, e8⟩
  ·refine ⟨_, List.mem_cons_self .., ?_, fun q _ _ _ => .refl _⟩
   show rd (sPush s p x e).ord x = rd (sPush s p x e).low x
   rw [rx, rl x x0, if_pos rfl]
  ·have hf : f ∈ p :: R := by rw [e8]; simp
   obtain ⟨g, hg, h1, h2⟩ := hj.l1 P' f R'' e8
   have hg2 : g ∈ p :: R := by rw [e8]; exact List.mem_append_right _ hg
   refine ⟨g, hg, by rw [rof g hg2, rlf f hf]; exact h1, fun q q0 hq hqg => ?_⟩
   rw [rof f hf, ro q q0] at hq
   by_cases eq : q = x
   ·rw [if_pos eq] at hq
    have := hclk f hf
    omega
   ·rw [if_neg eq] at hq
    exact h2 q q0 hq hqg
 ·intro j y z hy ht hle2
  rcases cases_ e9 with ⟨rfl, rfl, rfl⟩ | ⟨P', rfl, e8⟩
  ·left
   rcases (rt j hy.rng.1).1 ht with rfl | ht
   ·rfl
   ·exfalso
    have hle2 : rd (sPush s p x e).ord x ≤ rd (sPush s p x e).ord y := hle2
    rw [rx, ro y (hy.inn hR.ends).1.1, if_neg (old hy ht)] at hle2
    have := h.ordr y (hy.inn hR.ends).1.1 (hy.inn hR.ends).1.2
    omega
  ·have hf : f ∈ p :: R := by rw [e8]; simp
   have hlo := (h.low P' f R'' e8).1
   have hfc := hclk f hf
   rw [rof f hf] at hle2
   rcases (rt j hy.rng.1).1 ht with rfl | ht
   ·right
    refine ⟨f, List.mem_cons_self .., ?_⟩
    rw [rlf f hf]
    rcases he.two hy with ⟨h1, h2⟩ | ⟨h1, h2⟩
    ·rw [h2, rx]; omega
    ·rw [h2, rof p (List.mem_cons_self ..)]
     have := hle f hf
     omega
   ·rw [ro y (hy.inn hR.ends).1.1, if_neg (old hy ht)] at hle2
    rcases hj.l2 P' f R'' e8 j y z hy ht hle2 with h1 | ⟨g, hg, h1⟩
    ·exact .inl h1
    ·right
     have hg2 : g ∈ p :: R := by
      rw [e8]
      rcases List.mem_cons.1 hg with rfl | hg
      ·simp
      ·exact List.mem_append_left _ hg
     refine ⟨g, ?_, ?_⟩
     ·rcases List.mem_cons.1 hg with rfl | hg
      ·exact List.mem_cons_self ..
      ·exact List.mem_cons_of_mem _ (List.mem_cons_of_mem _ hg)
     ·rw [rlf g hg2, ro z (hy.swap.inn hR.ends).1.1, if_neg (old hy.swap ht)]
      exact h1
 ·intro z z0 z1 h1 h2 j b hz
  cases P with
  | nil =>
   simp only [List.nil_append, List.cons.injEq] at e9
   obtain ⟨rfl, rfl, rfl⟩ := e9
   have h2 : rd (sPush s p x e).ord z < rd (sPush s p x e).ord x := h2
   rw [rof p (List.mem_cons_self ..), ro z z0] at h1
   rw [rx, ro z z0] at h2
   by_cases ez : z = x
   ·rw [if_pos ez] at h2; omega
   ·rw [if_neg ez] at h1 h2
    have hzn : rd s.ord z ≠ 0 := by have := h.ordr p.v p0 p1; omega
    have hdone := h.fin z z0 z1 hzn (fun f hf e7 => by have := hle f hf; rw [e7] at this; omega)
    have htk := h.done hz z0 z1 hdone
    refine ⟨(rt j hz.rng.1).2 (.inr htk), ?_⟩
    show rd (sPush s p x e).ord b < rd (sPush s p x e).ord x
    rw [rx, ro b (hz.swap.inn hR.ends).1.1, if_neg (old hz.swap htk)]
    have := h.ordr b (hz.swap.inn hR.ends).1.1 (hz.swap.inn hR.ends).1.2
    omega
  | cons w P =>
   simp only [List.cons_append, List.cons.injEq] at e9
   obtain ⟨-, e8⟩ := e9
   have hy : y ∈ p :: R := by rw [e8]; simp
   have hq : q ∈ p :: R := by rw [e8]; simp
   rw [rof q hq, ro z z0] at h1
   rw [rof y hy, ro z z0] at h2
   have hyc := hclk y hy
   by_cases ez : z = x
   ·rw [if_pos ez] at h2; omega
   ·rw [if_neg ez] at h1 h2
    obtain ⟨h3, h4⟩ := hj.nc P y q R'' e8 z z0 z1 h1 h2 j b hz
    refine ⟨(rt j hz.rng.1).2 (.inr h3), ?_⟩
    rw [rof y hy, ro b (hz.swap.inn hR.ends).1.1, if_neg (old hz.swap h3)]
    exact h4
theorem IB.merge (h : IA N E s (c :: p :: R)) (hj : IB N E s (c :: p :: R)) (hl : rd s.low c.v < rd s.ord p.v) : IB N E (stM s c p R) (pM c p :: R) := by
 obtain ⟨p0, p1, p2⟩ := h.inF p (by simp)
 have hasc := List.pairwise_cons.1 h.asc
 have hasc2 := List.pairwise_cons.1 hasc.2
 have hcp := hasc.1 p (by simp)
 have rl := lowM_rd h
 have lp : rd (lowM s c p) p.v ≤ rd s.low c.v ∧ rd (lowM s c p) p.v ≤ rd s.low p.v := by
  rw [rl _ p0, if_pos rfl]
  split <;> omega
 have lf : ∀ f ∈ R, rd (lowM s c p) f.v = rd s.low f.v := fun f hf => by
  rw [rl _ (h.inF f (by simp [hf])).1, if_neg (fun e => by have := hasc2.1 f hf; rw [e] at this; omega)]
 obtain ⟨gl, hgl, hl1, hl2⟩ := hj.l1 [] c (p :: R) rfl
 have hglR : gl ∈ R := by
  rcases List.mem_cons.1 hgl with rfl | hgl
  ·omega
  ·rcases List.mem_cons.1 hgl with rfl | hgl
   ·omega
   ·exact hgl
 obtain ⟨q, R', rfl⟩ : ∃ q R', R = q :: R' := by
  cases R with
  | nil => cases hglR
  | cons q R' => exact ⟨q, R', rfl⟩
 have hcb := (h.tree [] c p (q :: R') rfl).1
 have hpb := (h.tree [c] p q R' rfl).1
 have hrel : Rel E c.by_ p.by_ := by
  refine ⟨p.v, c.v, q.v, hcb, hpb.swap, ?_⟩
  have h1 := hl2 p.v p0 hcp (fun e9 => by have := hasc2.1 gl hglR; rw [← e9] at this; omega)
  refine h1.trans (tree_path R' q (fun P a b R'' e9 => (h.tree (c :: p :: P) a b R'' (by rw [e9]; rfl)).1) (fun f hf e9 => ?_) gl hglR)
  have := hasc2.1 f hf
  rw [e9] at this; omega
 have cases_ : ∀ {P : List Fr} {f : Fr} {R'' : List Fr}, (pM c p :: q :: R') = P ++ f :: R'' → (P = [] ∧ f = pM c p ∧ R'' = q :: R') ∨ ∃ P', P = pM c p :: P' ∧ q :: R' = P' ++ f :: R'' := by
  intro P f R'' e9
  cases P with
  | nil => simp only [List.nil_append, List.cons.injEq] at e9; exact .inl ⟨rfl, e9.1.symm, e9.2.symm⟩
  | cons z P => simp only [List.cons_append, List.cons.injEq] at e9; exact .inr ⟨P, by rw [← e9.1], e9.2⟩
 refine ⟨fun P f R'' e9 => ?_, fun P f R'' e9 => ?_, fun P f R'' e9 => ?_, fun P x y R'' e9 => ?_, hj.bk, hj.c1, hj.c2⟩
 ·rcases cases_ e9 with ⟨rfl, rfl, rfl⟩ | ⟨P', rfl, e8⟩
  ·intro j hm
   rcases List.mem_append.1 hm with hm | hm
   ·obtain ⟨h1, h2, h3⟩ := hj.sg [c] p _ rfl j hm
    exact ⟨h1, h2, fun v b hv g hg => by cases hg⟩
   ·obtain ⟨h1, ⟨v, a, h2, h3⟩, -⟩ := hj.sg [] c _ rfl j hm
    exact ⟨.step h1 hrel, ⟨v, a, h2, by show rd s.ord p.v ≤ rd s.ord v; omega⟩, fun v b hv g hg => by cases hg⟩
  ·intro j hm
   obtain ⟨h1, h2, h3⟩ := hj.sg (c :: p :: P') f R'' (by rw [e8]; rfl) j hm
   refine ⟨h1, h2, fun v b hv g hg => ?_⟩
   rcases List.mem_cons.1 hg with rfl | hg
   ·exact h3 v b hv p (by simp)
   ·exact h3 v b hv g (by simp [hg])
 ·rcases cases_ e9 with ⟨rfl, rfl, rfl⟩ | ⟨P', rfl, e8⟩
  ·show ∃ g : Fr, g ∈ _ ∧ rd s.ord g.v = rd (lowM s c p) p.v ∧ ∀ x, 0 ≤ x → rd s.ord x < rd s.ord p.v → x ≠ g.v → Cn (dropV E x) p.v g.v
   rw [rl _ p0, if_pos rfl]
   split
   ·refine ⟨gl, List.mem_cons_of_mem _ hglR, hl1, fun x x0 hx hxg => ?_⟩
    exact (hcb.avoid (fun e7 => by rw [e7] at hx; omega) (fun e7 => by rw [← e7] at hx; omega)).trans (hl2 x x0 (by omega) hxg)
   ·obtain ⟨g2, hg2, h1, h2⟩ := hj.l1 [c] p _ rfl
    rcases List.mem_cons.1 hg2 with rfl | hg2
    ·exact ⟨pM c g2, List.mem_cons_self .., h1, h2⟩
    ·exact ⟨g2, List.mem_cons_of_mem _ hg2, h1, h2⟩
  ·show ∃ g : Fr, g ∈ f :: R'' ∧ rd s.ord g.v = rd (lowM s c p) f.v ∧ _
   rw [lf f (by rw [e8]; simp)]
   exact hj.l1 (c :: p :: P') f R'' (by rw [e8]; rfl)
 ·intro j x y hx ht hle
  show j = f.by_ ∨ ∃ g : Fr, g ∈ f :: P ∧ rd (lowM s c p) g.v ≤ rd s.ord y
  rcases cases_ e9 with ⟨rfl, rfl, rfl⟩ | ⟨P', rfl, e8⟩
  ·rcases hj.l2 [c] p _ rfl j x y hx ht hle with h1 | ⟨g2, hg2, h1⟩
   ·exact .inl h1
   ·right
    refine ⟨pM c p, List.mem_cons_self .., ?_⟩
    show rd (lowM s c p) p.v ≤ _
    rcases List.mem_cons.1 hg2 with rfl | hg2
    ·omega
    ·rw [List.mem_singleton] at hg2; subst hg2; omega
  ·have hfR : f ∈ q :: R' := by rw [e8]; simp
   rcases hj.l2 (c :: p :: P') f R'' (by rw [e8]; rfl) j x y hx ht hle with h1 | ⟨g2, hg2, h1⟩
   ·exact .inl h1
   ·right
    rcases List.mem_cons.1 hg2 with rfl | hg2
    ·exact ⟨g2, List.mem_cons_self .., by rw [lf g2 hfR]; exact h1⟩
    ·rcases List.mem_cons.1 hg2 with rfl | hg2
     ·exact ⟨pM g2 p, by simp, by show rd (lowM s g2 p) p.v ≤ _; omega⟩
     ·rcases List.mem_cons.1 hg2 with rfl | hg2
      ·exact ⟨pM c g2, by simp, by show rd (lowM s c g2) g2.v ≤ _; omega⟩
      ·exact ⟨g2, by simp [hg2], by rw [lf g2 (by rw [e8]; exact List.mem_append_left _ hg2)]; exact h1⟩
 ·rcases cases_ e9 with ⟨rfl, rfl, e8⟩ | ⟨P', rfl, e8⟩
  ·simp only [List.cons.injEq] at e8
   obtain ⟨rfl, rfl⟩ := e8
   exact hj.nc [c] p y R'' rfl
  ·exact hj.nc (c :: p :: P') x y R'' (by rw [e8]; rfl)
theorem em1 (h : IA N E s (c :: p :: R)) (hn : rd s.next c.v = ((arcsOf E c.v).length : Int)) {x : Int} (x0 : 0 ≤ x) (x1 : x < (N : Int)) (hx : rd s.ord c.v ≤ rd s.ord x) {j y : Int} (hj : At E j x y) : Tk s j := by
 obtain ⟨c0, c1, c2⟩ := h.inF c (by simp)
 have hasc := List.pairwise_cons.1 h.asc
 by_cases e : x = c.v
 ·rw [e] at hj; exact h.done hj c0 c1 hn
 ·refine h.done hj x0 x1 (h.fin x x0 x1 (by have := h.ordr c.v c0 c1; omega) (fun f hf e2 => ?_))
  rcases List.mem_cons.1 hf with rfl | hf
  ·exact e e2.symm
  ·have := hasc.1 f hf
   rw [e2] at this; omega
theorem em2 (hR : Rt N E) (h : IA N E s (c :: p :: R)) (hb : IB N E s (c :: p :: R)) (hn : rd s.next c.v = ((arcsOf E c.v).length : Int)) {x : Int} (hx : rd s.ord c.v ≤ rd s.ord x) {j y : Int} (hj : At E j x y) : j ∈ c.seg ∨ ∃ b ∈ s.blocks, j ∈ b := by
 obtain ⟨⟨x0, x1⟩, -⟩ := hj.inn hR.ends
 have ht := em1 h hn x0 x1 hx hj
 rcases (h.part j hj.rng.1 hj.rng.2).1 ht with h1 | h1
 ·rw [h.edg] at h1
  obtain ⟨f, hf, h9⟩ := mem_edOf.1 h1
  rcases List.mem_cons.1 hf with e8 | hf
  ·rw [e8] at h9; exact .inl h9
  ·exfalso
   obtain ⟨P, R', e⟩ := List.append_of_mem hf
   obtain ⟨-, -, h2⟩ := hb.sg (c :: P) f R' (by rw [e]; rfl) j h9
   have := h2 x y hj c (List.mem_cons_self ..)
   omega
 ·exact .inr h1
theorem em3 (hR : Rt N E) (h : IA N E s (c :: p :: R)) (hb : IB N E s (c :: p :: R)) (hn : rd s.next c.v = ((arcsOf E c.v).length : Int)) (hl : rd s.ord p.v ≤ rd s.low c.v) {x : Int} (hx : rd s.ord c.v ≤ rd s.ord x) {j y : Int} (hj : At E j x y) : rd s.ord c.v ≤ rd s.ord y ∨ y = p.v := by
 obtain ⟨⟨x0, x1⟩, y0, y1⟩ := hj.inn hR.ends
 obtain ⟨p0, p1, p2⟩ := h.inF p (by simp)
 have hasc := List.pairwise_cons.1 h.asc
 have hcp := hasc.1 p (by simp)
 have ht := em1 h hn x0 x1 hx hj
 by_cases hy : rd s.ord c.v ≤ rd s.ord y
 ·exact .inl hy
 ·right
  rcases hb.l2 [] c (p :: R) rfl j x y hj ht hx with h1 | ⟨g, hg, h1⟩
  ·have hA := (h.tree [] c p R rfl).1
   rw [← h1] at hA
   rcases hA.two hj with ⟨h2, h3⟩ | ⟨h2, h3⟩
   ·exfalso; rw [h2] at hx; omega
   ·exact h3
  ·rw [List.mem_singleton] at hg
   subst hg
   by_cases h4 : rd s.ord y = rd s.ord p.v
   ·exact h.ordi y p.v y0 y1 p0 p1 h4 (by rw [h4]; exact p2)
   ·exfalso
    have h5 := (hb.nc [] g p R rfl y y0 y1 (by omega) (by omega) j x hj.swap).2
    omega
theorem em4 (hR : Rt N E) (h : IA N E s (c :: p :: R)) (hb : IB N E s (c :: p :: R)) (hn : rd s.next c.v = ((arcsOf E c.v).length : Int)) (hl : rd s.ord p.v ≤ rd s.low c.v) {i v a : Int} (hi : i ∈ c.seg) (hv : At E i v a) : rd s.ord c.v ≤ rd s.ord v ∨ v = p.v := by
 obtain ⟨-, ⟨v', a', h1, h2⟩, -⟩ := hb.sg [] c _ rfl i hi
 rcases h1.two hv with ⟨h3, -⟩ | ⟨h3, h4⟩
 ·left; rw [h3]; exact h2
 ·rw [h3]; exact em3 hR h hb hn hl h2 h1
theorem em5 (hR : Rt N E) (h : IA N E s (c :: p :: R)) (hb : IB N E s (c :: p :: R)) (hn : rd s.next c.v = ((arcsOf E c.v).length : Int)) (hl : rd s.ord p.v ≤ rd s.low c.v) {a b : Int} (hc : Cn (dropV E p.v) a b) (ha : rd s.ord c.v ≤ rd s.ord a) : rd s.ord c.v ≤ rd s.ord b := by
 induction hc with
 | refl => exact ha
 | fwd e he _ ih =>
  obtain ⟨he, hn0, hn1⟩ := mem_dropV.1 he
  obtain ⟨j, hj, rfl⟩ := List.mem_iff_getElem.1 he
  exact (em3 hR h hb hn hl ih (j:=(j : Int)) ⟨j, hj, rfl, .inl ⟨rfl, rfl⟩⟩).resolve_right hn1
 | bwd e he _ ih =>
  obtain ⟨he, hn0, hn1⟩ := mem_dropV.1 he
  obtain ⟨j, hj, rfl⟩ := List.mem_iff_getElem.1 he
  exact (em3 hR h hb hn hl ih (j:=(j : Int)) ⟨j, hj, rfl, .inr ⟨rfl, rfl⟩⟩).resolve_right hn0
theorem seg_nb (h : IA N E s F) {f : Fr} (hf : f ∈ F) {j : Int} (hj : j ∈ f.seg) {b : List Int} (hb : b ∈ s.blocks) : j ∉ b := by
 intro hm
 have h1 : j ∈ s.edges := by rw [h.edg]; exact mem_edOf.2 ⟨f, hf, hj⟩
 exact (List.nodup_append.1 h.nd).2.2 j h1 j (List.mem_flatten.2 ⟨b, hb, hm⟩) rfl
theorem seg_ns (h : IA N E s (c :: F)) {f : Fr} (hf : f ∈ F) {j : Int} (hj : j ∈ f.seg) : j ∉ c.seg := by
 intro hm
 have h1 := (List.nodup_append.1 h.nd).1
 rw [h.edg, edOf_cons] at h1
 exact (List.nodup_append.1 h1).2.2 j (mem_edOf.2 ⟨f, hf, hj⟩) j hm rfl
theorem IB.emit (hR : Rt N E) (h : IA N E s (c :: p :: R)) (hb : IB N E s (c :: p :: R)) (hn : rd s.next c.v = ((arcsOf E c.v).length : Int)) (hl : rd s.ord p.v ≤ rd s.low c.v) : IB N E (stE E s c p R) (p :: R) := by
 obtain ⟨p0, p1, p2⟩ := h.inF p (by simp)
 have hasc := List.pairwise_cons.1 h.asc
 have hasc2 := List.pairwise_cons.1 hasc.2
 have hcp := hasc.1 p (by simp)
 have hlp := (h.low [c] p R rfl).1
 have rl := lowM_rd h
 have lf : ∀ f ∈ p :: R, rd (lowM s c p) f.v = rd s.low f.v := fun f hf => by
  rw [rl _ (h.inF f (List.mem_cons_of_mem _ hf)).1]
  split
  ·rename_i e
   rw [if_neg (by omega), e]
  ·rfl
 have htree := h.tree [] c p R rfl
 have hcutv : ∀ v, 0 ≤ v → (rdOf false (stE E s c p R).cut v = true ↔ rdOf false s.cut v = true ∨ (v = p.v ∧ cutB E s p R = true)) := fun v v0 => by
  show rdOf false (if cutB E s p R = true then s.cut.set p.v.toNat true else s.cut) v = true ↔ _
  by_cases hc : cutB E s p R = true
  ·rw [if_pos hc, rdb_set _ _ _ _ p0 (by rw [h.lc]; exact p1) v0]
   by_cases e : v = p.v
   ·rw [if_pos e]; simp [e, hc]
   ·rw [if_neg e]; simp [e]
  ·rw [if_neg hc]; simp [hc]
 have hmem : ∀ b, b ∈ (stE E s c p R).blocks ↔ b ∈ s.blocks ∨ b = wkSorted c.seg := fun b => by
  show b ∈ s.blocks ++ [wkSorted c.seg] ↔ _
  rw [List.mem_append, List.mem_singleton]
 refine ⟨fun P f R'' e9 => ?_, fun P f R'' e9 => ?_, fun P f R'' e9 => ?_, fun P x y R'' e9 => ?_, fun b hbm => ?_, fun v v0 v1 hv => ?_, fun b hbm v i a k a' hi hiv hkv hk => ?_⟩
 ·intro j hm
  obtain ⟨h1, h2, h3⟩ := hb.sg (c :: P) f R'' (by rw [e9]; rfl) j hm
  exact ⟨h1, h2, fun v b hv g hg => h3 v b hv g (List.mem_cons_of_mem _ hg)⟩
 ·show ∃ g : Fr, g ∈ f :: R'' ∧ rd s.ord g.v = rd (lowM s c p) f.v ∧ _
  rw [lf f (by rw [e9]; simp)]
  exact hb.l1 (c :: P) f R'' (by rw [e9]; rfl)
 ·intro j x y hx ht hle
  show j = f.by_ ∨ ∃ g : Fr, g ∈ f :: P ∧ rd (lowM s c p) g.v ≤ rd s.ord y
  have hfR : f ∈ p :: R := by rw [e9]; simp
  rcases hb.l2 (c :: P) f R'' (by rw [e9]; rfl) j x y hx ht hle with h1 | ⟨g2, hg2, h1⟩
  ·exact .inl h1
  ·right
   rcases List.mem_cons.1 hg2 with rfl | hg2
   ·exact ⟨g2, List.mem_cons_self .., by rw [lf g2 hfR]; exact h1⟩
   ·rcases List.mem_cons.1 hg2 with rfl | hg2
    ·-- the block's own vertex: the vertex ahead is as low
     have hpf : p ∈ f :: P := by
      cases P with
      | nil => simp only [List.nil_append, List.cons.injEq] at e9; rw [e9.1]; exact List.mem_cons_self ..
      | cons z P => simp only [List.cons_append, List.cons.injEq] at e9; rw [e9.1]; simp
     exact ⟨p, hpf, by rw [lf p (List.mem_cons_self ..)]; omega⟩
    ·exact ⟨g2, List.mem_cons_of_mem _ hg2, by rw [lf g2 (by rw [e9]; exact List.mem_append_left _ hg2)]; exact h1⟩
 ·exact hb.nc (c :: P) x y R'' (by rw [e9]; rfl)
 ·rcases (hmem b).1 hbm with hbm | rfl
  ·exact hb.bk b hbm
  ·refine ⟨fun i hi k hr => ?_, fun i hi k hk => ?_⟩
   ·rw [mem_sorted] at hi ⊢
    refine Classical.byContradiction fun hk => ?_
    have key : k ∈ c.seg ∨ ∃ b ∈ s.blocks, k ∈ b := by
     obtain ⟨v, a, a', h1, h2, h3⟩ := hr
     by_cases hv : rd s.ord c.v ≤ rd s.ord v
     ·exact em2 hR h hb hn hv h2
     ·have ev := (em4 hR h hb hn hl hi h1).resolve_left hv
      have ha := (em4 hR h hb hn hl hi h1.swap).resolve_right (fun e => h1.ne hR (by rw [ev, e]))
      rw [ev] at h3
      exact em2 hR h hb hn (em5 hR h hb hn hl h3 ha) h2.swap
    rcases key with h1 | ⟨b, hb1, h1⟩
    ·exact hk h1
    ·exact seg_nb h (List.mem_cons_self ..) hi hb1 ((hb.bk b hb1).1 k h1 i hr.symm)
   ·rw [mem_sorted] at hi hk
    exact (hb.sg [] c _ rfl i hi).1.trans (hb.sg [] c _ rfl k hk).1.symm
 ·rcases (hcutv v v0).1 hv with hv | ⟨rfl, hc⟩
  ·obtain ⟨b, h1, h2⟩ := hb.c1 v v0 v1 hv
   exact ⟨b, (hmem b).2 (.inl h1), h2⟩
  ·obtain ⟨hA, t, ht⟩ := htree
   refine ⟨_, (hmem _).2 (.inr rfl), c.by_, c.v, ?_⟩
   have hcs : c.by_ ∈ wkSorted c.seg := mem_sorted.2 (by rw [ht]; exact List.mem_cons_self ..)
   cases R with
   | nil =>
    have hc : hasMore E s p.v = true := by
     unfold cutB at hc
     rw [decide_eq_false (by simp)] at hc
     simpa using hc
    unfold hasMore at hc
    obtain ⟨a, ha, hta⟩ := List.any_eq_true.1 hc
    have ha2 := arc_at.1 (List.mem_of_mem_drop ha)
    refine ⟨a.f1, a.f0, hcs, hA, ha2, fun hm => ?_⟩
    have htk := seg_tk h (List.mem_cons_self ..) (mem_sorted.1 hm)
    unfold Tk at htk
    rw [htk] at hta
    cases hta
   | cons q R =>
    obtain ⟨hA2, t2, ht2⟩ := h.tree [c] p q R rfl
    refine ⟨p.by_, q.v, hcs, hA, hA2.swap, fun hm => ?_⟩
    exact seg_ns h (f:=p) (by simp) (by rw [ht2]; exact List.mem_cons_self ..) (mem_sorted.1 hm)
 ·have v0 := (hiv.inn hR.ends).1.1
  rw [hcutv v v0]
  rcases (hmem b).1 hbm with hbm | rfl
  ·exact .inl (hb.c2 b hbm v i a k a' hi hiv hkv hk)
  ·rw [mem_sorted] at hi
   have hk2 : k ∉ c.seg := fun hm => hk (mem_sorted.2 hm)
   have oldb : (∃ b ∈ s.blocks, k ∈ b) → rdOf false s.cut v = true := by
    rintro ⟨b, hb1, hb2⟩
    exact hb.c2 b hb1 v k a' i a hb2 hkv hiv (seg_nb h (List.mem_cons_self ..) hi hb1)
   rcases em4 hR h hb hn hl hi hiv with hv | rfl
   ·exact .inl (oldb ((em2 hR h hb hn hv hkv).resolve_left hk2))
   ·by_cases hc : cutB E s p R = true
    ·exact .inr ⟨rfl, hc⟩
    ·left
     unfold cutB at hc
     cases R with
     | cons q R => exact absurd (by rw [decide_eq_true (by simp)]; rfl) hc
     | nil =>
      have hroot := h.root [c] p rfl
      by_cases htk : Tk s k
      ·rcases (h.part k hkv.rng.1 hkv.rng.2).1 htk with h1 | h1
       ·exfalso
        rw [h.edg] at h1
        obtain ⟨f, hf, h9⟩ := mem_edOf.1 h1
        rcases List.mem_cons.1 hf with e8 | hf
        ·rw [e8] at h9; exact hk2 h9
        ·rw [List.mem_singleton] at hf
         rw [hf, hroot] at h9
         cases h9
       ·exact oldb h1
      ·exfalso
       apply hc
       rw [Bool.or_eq_true]
       right
       unfold hasMore
       obtain ⟨n, hn1, e1, e2⟩ := at_arc hkv
       rw [List.any_eq_true]
       have hx := h.nx p.v p0 p1
       have hge : ¬ (n : Int) < rd s.next p.v := fun hlt => htk (by have := hx.2.2 n hlt; rwa [e1] at this)
       refine ⟨rd_T51 (arcsOf E p.v) n, ?_, ?_⟩
       ·rw [rd51_get _ n hn1, List.mem_iff_getElem]
        refine ⟨n - (rd s.next p.v).toNat, by rw [zLd]; omega, ?_⟩
        rw [List.getElem_drop]
        congr 1
        omega
       ·rw [e1]
        unfold Tk at htk
        rw [Bool.eq_false_iff.2 htk]
        rfl
end
def ptCuts (cut : List Bool) : Nat → Nat → List Int → Option (List Int)
 | 0, _, out => some out
 | d + 1, v, out => if rdOf false cut (v : Int) = true then (if out.length < 17592186044415 then ptCuts cut d (v + 1) (out ++ [(v : Int)]) else none) else ptCuts cut d (v + 1) out
def parts_Blocks.f (k : Nat) (n : Int) (E : List S43) : Option (List (List Int)) :=
 (graph_Right.f k n E).bind fun q => if q = 0 then (wkWalked k n E).bind fun s => some s.blocks else some []
def parts_Cuts.f (k : Nat) (n : Int) (E : List S43) : Option (List Int) :=
 (graph_Right.f k n E).bind fun q => if q = 0 then (wkWalked k n E).bind fun s => ptCuts s.cut s.cut.length 0 [] else some []
theorem parts_Blocks.calls (k : Nat) (n : Int) (A0 : Option Addr) (c0 : Nat) (E : List S43) (r : List (List Int)) (w : World) (hr0 : Kd.C k43 w A0 E.length E) (hc0 : E.length ≤ c0) (h : parts_Blocks.f k n E = some r) :
  Calls Try.prog 19 #[.agg #[.int .i64 n, .slice A0 E.length c0]] w fun e w' => ∃ v0_ : Value, e = .returned v0_ ∧ Kd.S (Kd.slice 3 (Kd.int .i64)) 33 w' w.heap.size (fun _ => True) v0_ r ∧ Below w.heap.size w w' := by
 have hu24 := Try.underlying24
 have hu55 := Try.underlying55
 have HR := zMk hr0
 have HC := zMk hc0
 unfold parts_Blocks.f at h
 obtain ⟨q, hq, h⟩ := Option.bind_eq_some_iff.1 h
 have HQ := zMk hq
 have HH := zMk h
 clear hr0 hc0 hq h
 go_enter Try.func19, Try.ntmps19
 go_upto_region 1 with (fail)
 have BM := zMk (heap_alloc_new w (.cells #[.int .i64 n, .slice A0 E.length c0] 24))
 have HB := zMk (zBa (Below.refl w.heap.size w) (.cells #[.int .i64 n, .slice A0 E.length c0] 24))
 generalize w.alloc (.cells #[.int .i64 n, .slice A0 E.length c0] 24) = w0 at BM HB ⊢
 obtain ⟨gb, hgb⟩ : ∃ gb, gb = w.heap.size := ⟨_, rfl⟩
 rw [← hgb] at BM ⊢
 clear hgb
 have z0 : w0.cell? ⟨gb, 0, none⟩ = some (.int .i64 n) := (zKc BM.out 0).trans rfl
 have z1 : w0.cell? ⟨gb, 1, none⟩ = some (.slice A0 E.length c0) := (zKc BM.out 1).trans rfl
 go_upto_if 5 with (go_at_call 27; refine (graph_Right.calls k n A0 c0 E q _ (Kd.C_below HR.out HB.out) HC.out HQ.out).mono ?_; rintro e w1 ⟨rfl, hb⟩; have BM1 := zMk (zKb BM.out hb); have HB1 := zMk (zBt HB.out hb); clear hb)
 clear z0 z1 BM HB HQ
 have h := HH.out
 clear HH
 by_cases hq0 : q = 0
 rotate_left
 ·rw [if_neg hq0] at h
  have qb : (q != 0) = true := bne_iff_ne.mpr hq0
  obtain rfl := zOi h
  first | rw [qb] | skip
  go_wp2
  go_ret
  exact ⟨_, rfl, Kd.S_nil _ _ _ _ _, HB1.out⟩
 subst hq0
 rw [if_pos rfl] at h
 have qb : ((0 : Int) != 0) = false := rfl
 first | rw [qb] | skip
 obtain ⟨s, hs, h⟩ := Option.bind_eq_some_iff.1 h
 obtain rfl := zOi h
 have HS := zMk hs
 clear h hs
 have z0 : w1.cell? ⟨gb, 0, none⟩ = some (.int .i64 n) := (zKc BM1.out 0).trans rfl
 have z1 : w1.cell? ⟨gb, 1, none⟩ = some (.slice A0 E.length c0) := (zKc BM1.out 1).trans rfl
 go_wp2_with (go_at_call 31; refine (wkWalked.calls k n A0 c0 E s _ (Kd.C_below HR.out HB1.out) HC.out HS.out).mono ?_; rintro e wz ⟨gw, vn, V, wa, wn, rfl, hw, hb⟩; have HW := zMk hw; have HBz := zMk (zBt HB1.out (zBt hb hw.hBl)); have HSZ := zMk (zBs (zBt HB1.out hb)); have z7 : wz.cell? ⟨gw, 7, none⟩ = some V.vB := (zKc hw.hw 7).trans rfl; clear hw hb)
 go_ret
 exact ⟨_, rfl, Kd.S_mono (Kd.S_lower HW.out.hB HSZ.out) (fun _ _ => trivial), HBz.out⟩
theorem parts_Cuts.calls (k : Nat) (n : Int) (A0 : Option Addr) (c0 : Nat) (E : List S43) (r : List Int) (w : World) (hr0 : Kd.C k43 w A0 E.length E) (hc0 : E.length ≤ c0) (h : parts_Cuts.f k n E = some r) :
  Calls Try.prog 14 #[.agg #[.int .i64 n, .slice A0 E.length c0]] w fun e w' => ∃ v0_ : Value, e = .returned v0_ ∧ Kd.R (Kd.int .i64) 3 w' w.heap.size (fun _ => True) v0_ r ∧ Below w.heap.size w w' := by
 have hu24 := Try.underlying24
 have hu55 := Try.underlying55
 have HR := zMk hr0
 have HC := zMk hc0
 unfold parts_Cuts.f at h
 obtain ⟨q, hq, h⟩ := Option.bind_eq_some_iff.1 h
 have HQ := zMk hq
 have HH := zMk h
 clear hr0 hc0 hq h
 go_enter Try.func14, Try.ntmps14
 go_upto_region 1 with (fail)
 have BM := zMk (heap_alloc_new w (.cells #[.int .i64 n, .slice A0 E.length c0] 24))
 have HB := zMk (zBa (Below.refl w.heap.size w) (.cells #[.int .i64 n, .slice A0 E.length c0] 24))
 generalize w.alloc (.cells #[.int .i64 n, .slice A0 E.length c0] 24) = w0 at BM HB ⊢
 obtain ⟨gb, hgb⟩ : ∃ gb, gb = w.heap.size := ⟨_, rfl⟩
 rw [← hgb] at BM ⊢
 clear hgb
 have z0 : w0.cell? ⟨gb, 0, none⟩ = some (.int .i64 n) := (zKc BM.out 0).trans rfl
 have z1 : w0.cell? ⟨gb, 1, none⟩ = some (.slice A0 E.length c0) := (zKc BM.out 1).trans rfl
 go_upto_if 7 with (go_at_call 27; refine (graph_Right.calls k n A0 c0 E q _ (Kd.C_below HR.out HB.out) HC.out HQ.out).mono ?_; rintro e w1 ⟨rfl, hb⟩; have BM1 := zMk (zKb BM.out hb); have HB1 := zMk (zBt HB.out hb); clear hb)
 clear z0 z1 BM HB HQ
 have h := HH.out
 clear HH
 by_cases hq0 : q = 0
 rotate_left
 ·rw [if_neg hq0] at h
  have qb : (q != 0) = true := bne_iff_ne.mpr hq0
  obtain rfl := zOi h
  first | rw [qb] | skip
  go_wp2
  go_ret
  exact ⟨_, rfl, Kd.R_nil _ _ _ _ _, HB1.out⟩
 subst hq0
 rw [if_pos rfl] at h
 have qb : ((0 : Int) != 0) = false := rfl
 first | rw [qb] | skip
 obtain ⟨s, hs, h⟩ := Option.bind_eq_some_iff.1 h
 have HS := zMk hs
 have HH := zMk h
 clear h hs
 have z0 : w1.cell? ⟨gb, 0, none⟩ = some (.int .i64 n) := (zKc BM1.out 0).trans rfl
 have z1 : w1.cell? ⟨gb, 1, none⟩ = some (.slice A0 E.length c0) := (zKc BM1.out 1).trans rfl
 go_wp2_with (go_at_call 31; refine (wkWalked.calls k n A0 c0 E s _ (Kd.C_below HR.out HB1.out) HC.out HS.out).mono ?_; rintro e wz ⟨gw, vn, V, wa, wn, rfl, hw, hb⟩; have HBz := zMk (zBt HB1.out (zBt hb hw.hBl)); have H6 := zMk hw.h6; obtain ⟨A6, c6, e6⟩ := zRs hw.h6; have E6 := zMk e6; have z6 : wz.cell? ⟨gw, 6, none⟩ = some (.slice A6 s.cut.length c6) := (zKc hw.hw 6).trans (congrArg some e6); clear hw hb e6)
 clear z0 z1 z6 BM1 HB1 HS HR
 have H6C := zMk (show Kd.R Kd.bool 4 wz wa.heap.size (fun _ => True) (.slice A6 s.cut.length c6) s.cut from E6.out ▸ H6.out)
 clear H6 E6
 generalize s.cut = cut at H6C HH
 have HCL := zMk (wk_len H6C.out)
 go_loopg [2, 14] cut.length (fun kx s2 s14 wr => ∃ (v : Nat) (out : List Int) (vO : Value), s2 = vO ∧ s14 = .int .i64 (v : Int) ∧ v ≤ cut.length ∧ cut.length - v ≤ kx ∧ Aside0 (Kd.R (Kd.int .i64) 3 wr wz.heap.size (fun _ => True) vO out) ∧ Aside0 (Below wz.heap.size wz wr) ∧ Aside0 (ptCuts cut (cut.length - v) v out = some r))
 case atStart => exact ⟨0, [], .slice none 0 0, rfl, rfl, Nat.zero_le _, Nat.le_refl _, ⟨Kd.R_nil _ _ _ _ _⟩, ⟨Below.refl _ _⟩, HH⟩
 case round =>
  clear HH
  obtain ⟨v, out, vO, hs2, rfl, hv, hg3, RO, HB, HH⟩ := hrel
  obtain ⟨s2, e2⟩ : ∃ s2 : Value, s2 = vO := ⟨_, rfl⟩
  subst hs2
  subst e2
  by_cases hlt : v < cut.length
  rotate_left
  ·have h := HH.out
   rw [show cut.length - v = 0 by omega, ptCuts] at h
   obtain rfl := zOi h
   have hvn : ((v : Int) < (cut.length : Int)) = False := eq_false (by omega)
   clear h HH
   go_wp2
   go_ret
   exact ⟨_, rfl, zRl RO.out (zBs HBz.out), zBt HBz.out HB.out⟩
  have h := HH.out
  clear HH
  rw [show cut.length - v = (cut.length - (v + 1)) + 1 by omega, ptCuts] at h
  have h6 := zRb H6C.out HB.out
  obtain ⟨g6, c6', e6, -, -, -⟩ := Kd.R_form h6 (by omega)
  injection e6 with ea en ec
  subst ea
  subst ec
  clear en
  have p0 : 0 ≤ (v : Int) := Int.natCast_nonneg v
  have q0 : (v : Int) < (cut.length : Int) := by omega
  obtain ⟨hx, -⟩ := Kd.R_celln false h6 (v : Int) p0 q0
  rw [zTn] at hx
  have hi64 : wrap64 ((v : Int) + 1) = ((v + 1 : Nat) : Int) := by
   have a1 := HCL.out
   have a2 : maxLen ≤ 9223372036854775807 := by decide
   unfold wrap64; omega
  replace p0 := eq_true p0
  replace q0 := eq_true q0
  clear h6
  by_cases hmet : rdOf false cut (v : Int) = true
  rotate_left
  ·rw [if_neg hmet] at h
   have HH := zMk h
   have hx2 : wr.cell? ⟨g6, v, none⟩ = some (.bool false) := by rw [hx]; exact congrArg (fun z => some (Value.bool z)) (Bool.eq_false_iff.mpr hmet)
   clear hx h hmet
   go_wp2
   go_roundg (cut.length - (v + 1))
   case measure => omega
   case rel => exact ⟨v + 1, out, s2, rfl, by first | rfl | exact congrArg (Value.int .i64) (by omega) | exact congrArg (Value.int .i64) hi64 | exact congrArg (Value.int .i64) (by simp only [i64_w]; exact hi64), by omega, Nat.le_refl _, RO, HB, HH⟩
  ·rw [if_pos hmet] at h
   by_cases hol : out.length < 17592186044415
   rotate_left
   ·rw [if_neg hol] at h; cases h
   rw [if_pos hol] at h
   have HH := zMk h
   have HOL := zMk hol
   have hx2 : wr.cell? ⟨g6, v, none⟩ = some (.bool true) := by rw [hx]; exact congrArg (fun z => some (Value.bool z)) hmet
   clear hx h hmet hol
   go_wp2_with ((with_reducible refine gate_builtin (b:=.append) (xs:=#[.tmp 20, .tmp 22]) rfl ?_); at_builtin; refine Kd.R_append (Kd.int .i64) (w0:=wz) wz.heap.size rfl (.tmp 20) (.tmp 22) 33 3 (.int .i64 0) 8 rfl Try.underlying33 info3 rfl (by decide) (by omega) s2 out (v : Int) [.int .i64 (v : Int)] (fun _ => True) (fun _ => False) rfl rfl ?aP (fun _ hk => hk.elim) ?aF ?aO ?aB ?aS ?aL ?_; (case aP => exact rfl); (case aB => exact HB.out); (case aF => exact (fun _ _ => trivial)); (case aO => exact RO.out); (case aS => exact (zBs HB.out)); (case aL => have := HOL.out; omega); intro vQ w7 ho hb hg hat; have RQ := zMk ho; have HB7 := zMk hb; clear ho hb hg hat)
   go_roundg (cut.length - (v + 1))
   case measure => omega
   case rel => exact ⟨v + 1, out ++ [(v : Int)], vQ, rfl, by first | rfl | exact congrArg (Value.int .i64) (by omega) | exact congrArg (Value.int .i64) hi64 | exact congrArg (Value.int .i64) (by simp only [i64_w]; exact hi64), by omega, Nat.le_refl _, RQ, HB7, HH⟩
theorem keeps_IB {N : Nat} {E : List S43} (hR : Rt N E) : Keeps N E (IB N E) where
 skip := fun _ _ _ h hj _ _ => hj.skip h
 back := fun _ _ _ _ _ h hj hlt _ he hu ha => hj.back hR h hlt he hu ha
 push := fun _ _ _ _ _ h hj _ _ he _ hx => hj.push hR h he hx
 root := fun _ _ _ hj _ => hj.root
 merge := fun _ _ _ _ h hj _ hl => hj.merge h hl
 emit := fun _ _ _ _ h hj hn hl => hj.emit hR h hn hl
 begin := fun _ _ h hj r0 r1 hr => hj.begin hR h r0 r1 hr
theorem keeps_met {N : Nat} {E : List S43} (hR : Rt N E) {J : Wk → List Fr → Prop} (hJ : Keeps N E J) (v : Int) (v0 : 0 ≤ v) : Keeps N E (fun s F => J s F ∧ rd s.ord v ≠ 0) where
 skip := fun s p R h hj a b => ⟨hJ.skip s p R h hj.1 a b, hj.2⟩
 back := fun s p R a e h hj b c d f g => ⟨hJ.back s p R a e h hj.1 b c d f g, hj.2⟩
 push := fun s p R x e h hj b c d f g => ⟨hJ.push s p R x e h hj.1 b c d f g, by
  obtain ⟨-, x0, x1⟩ := d.inn hR.ends
  show rd (s.ord.set x.toNat (s.clock + 1)) v ≠ 0
  rw [rd_set _ _ _ _ x0 (by rw [h.lo]; exact x1) v0]
  have := h.c0
  split
  ·omega
  ·exact hj.2⟩
 root := fun s c h hj a => ⟨hJ.root s c h hj.1 a, hj.2⟩
 merge := fun s c p R h hj a b => ⟨hJ.merge s c p R h hj.1 a b, hj.2⟩
 emit := fun s c p R h hj a b => ⟨hJ.emit s c p R h hj.1 a b, hj.2⟩
 begin := fun s r h hj a b c => ⟨hJ.begin s r h hj.1 a b c, by
  show rd (s.ord.set r.toNat (s.clock + 1)) v ≠ 0
  rw [rd_set _ _ _ _ a (by rw [h.lo]; exact b) v0]
  have := h.c0
  split
  ·omega
  ·exact hj.2⟩
theorem start_IA {N : Nat} {E : List S43} : IA N E (wkStart N E.length) [] := by
 have r0 : ∀ v, rd (List.replicate N 0) v = 0 := rd_rep N
 constructor
 case lo => exact List.length_replicate
 case ll => exact List.length_replicate
 case ln => exact List.length_replicate
 case lt => exact List.length_replicate
 case lc => exact List.length_replicate
 case stk => rfl
 case edg => rfl
 case clk => show (0 : Int) + ((List.replicate N (0 : Int)).count 0 : Int) = N; rw [List.count_replicate_self]; omega
 case c0 => exact Int.le_refl _
 case ordr => intro v _ _; show 0 ≤ rd (List.replicate N 0) v ∧ rd (List.replicate N 0) v ≤ 0; rw [r0]; omega
 case ordi => intro u v _ _ _ _ _ h; exact absurd (r0 u) h
 case inF => intro f hf; cases hf
 case asc => exact List.Pairwise.nil
 case nx => intro v _ _; show 0 ≤ rd (List.replicate N 0) v ∧ rd (List.replicate N 0) v ≤ _ ∧ ∀ i : Nat, (i : Int) < rd (List.replicate N 0) v → _; rw [r0]; exact ⟨by omega, by omega, fun i hi => by omega⟩
 case fin => intro v _ _ h; exact absurd (r0 v) h
 case un => intro v _ _ _; exact r0 v
 case ent => intro j v a _ ht; exfalso; have ht : rdOf false (List.replicate E.length false) j = true := ht; rw [rdb_rep] at ht; cases ht
 case part =>
  intro j _ _
  constructor
  ·intro ht; exfalso; have ht : rdOf false (List.replicate E.length false) j = true := ht; rw [rdb_rep] at ht; cases ht
  ·rintro (h | ⟨b, h, _⟩) <;> cases h
 case nd => exact List.nodup_nil
 case rng => intro j h; cases h
 case tree => intro P c p R e; simp at e
 case root => intro P f e; simp at e
 case low => intro P f R e; simp at e
 case bl => intro b h; cases h
theorem start_IB {N : Nat} {E : List S43} : IB N E (wkStart N E.length) [] :=
 ⟨fun P f R e => by simp at e, fun P f R e => by simp at e, fun P f R e => by simp at e, fun P c p R e => by simp at e, fun b h => (by cases h), fun v _ _ h => (by
  exfalso; have h : rdOf false (List.replicate N false) v = true := h; rw [rdb_rep] at h; cases h), fun b h => (by cases h)⟩
structure Fin (N : Nat) (E : List S43) (s : Wk) : Prop where
 lc : s.cut.length = N
 all : ∀ j, 0 ≤ j → j < (E.length : Int) → ∃ b ∈ s.blocks, j ∈ b
 nd : s.blocks.flatten.Nodup
 rng : ∀ b ∈ s.blocks, ∀ j ∈ b, 0 ≤ j ∧ j < (E.length : Int)
 bl : ∀ b ∈ s.blocks, b ≠ [] ∧ b.Pairwise (· < ·)
 bk : ∀ b ∈ s.blocks, (∀ i ∈ b, ∀ k, Rel E i k → k ∈ b) ∧ ∀ i ∈ b, ∀ k ∈ b, RC E i k
 ct : ∀ v, 0 ≤ v → v < (N : Int) → (rdOf false s.cut v = true ↔ ∃ b ∈ s.blocks, ∃ i a k a', i ∈ b ∧ At E i v a ∧ At E k v a' ∧ k ∉ b)
 hs : s.blocks.Pairwise fun a b => rd a 0 < rd b 0
 len : s.blocks.length ≤ 4194304
theorem heads_nd : ∀ (bs : List (List Int)), bs.flatten.Nodup → (∀ b ∈ bs, b ≠ []) → (bs.map fun b => rd b 0).Nodup
 | [], _, _ => List.nodup_nil
 | b :: bs, h, hb => by
  rw [List.flatten_cons, List.nodup_append] at h
  rw [zMc, List.nodup_cons]
  have head : ∀ c : List Int, c ≠ [] → rd c 0 ∈ c := fun c hc => by
   cases c with
   | nil => exact absurd rfl hc
   | cons x c => exact List.mem_cons_self ..
  refine ⟨fun hm => ?_, heads_nd bs h.2.1 (fun c hc => hb c (List.mem_cons_of_mem _ hc))⟩
  obtain ⟨c, hc, e⟩ := List.mem_map.1 hm
  refine h.2.2 (rd b 0) (head b (hb b (List.mem_cons_self ..))) (rd b 0) ?_ rfl
  rw [← e]
  exact List.mem_flatten.2 ⟨c, hc, head c (hb c (List.mem_cons_of_mem _ hc))⟩
theorem head_mem {c : List Int} (hc : c ≠ []) : rd c 0 ∈ c := by
 cases c with
 | nil => exact absurd rfl hc
 | cons x c => exact List.mem_cons_self ..
theorem walked_ev {N : Nat} {E : List S43} (hR : Rt N E) : ∃ s, Ev (fun k => wkWalked k N E) s ∧ Fin N E s := by
 obtain ⟨s, h1, h2, h3, h4⟩ := all_ev hR (keeps_IB hR) (fun v v0 => keeps_met hR (keeps_IB hR) v v0) N 0 (wkStart N E.length) rfl (Nat.zero_le _) start_IA start_IB (fun u u0 u1 => by omega)
 have hed : s.edges = [] := by rw [h2.edg]; rfl
 have hnd : s.blocks.flatten.Nodup := by have := h2.nd; rwa [hed] at this
 have hrng : ∀ b ∈ s.blocks, ∀ j ∈ b, 0 ≤ j ∧ j < (E.length : Int) := fun b hb j hj => h2.rng j (List.mem_append_right _ (List.mem_flatten.2 ⟨b, hb, hj⟩))
 have hall : ∀ j, 0 ≤ j → j < (E.length : Int) → ∃ b ∈ s.blocks, j ∈ b := fun j j0 j1 => by
  obtain ⟨i, rfl⟩ := Int.eq_ofNat_of_zero_le j0
  have hi : i < E.length := by omega
  have hA : At E (i : Int) E[i].f0 E[i].f1 := ⟨i, hi, rfl, .inl ⟨rfl, rfl⟩⟩
  obtain ⟨⟨v0, v1⟩, -⟩ := hA.inn hR.ends
  have ht := h2.done hA v0 v1 (h2.fin _ v0 v1 (h4 _ v0 v1) (fun f hf => by cases hf))
  rcases (h2.part _ j0 j1).1 ht with h5 | h5
  ·rw [hed] at h5; cases h5
  ·exact h5
 have hlen := (h2.elen hR).2
 have hE1 := hR.E1
 have hheads := heads_nd s.blocks hnd (fun b hb => (h2.bl b hb).1)
 have hperm : (wkSortB s.blocks).Perm s.blocks := isortBy_perm _ _
 have hsorted : (wkSortB s.blocks).Pairwise fun a b => rd a 0 ≤ rd b 0 := isortBy_sorted _ _
 have hm : ∀ b, b ∈ wkSortB s.blocks ↔ b ∈ s.blocks := fun b => hperm.mem_iff
 have hso : wkSorts s = some { s with blocks := wkSortB s.blocks } := by
  have h9 : (s.blocks.all fun b => decide (b ≠ [] ∧ 0 ≤ rd b 0 ∧ rd b 0 < 4611686018427387904)) = true := by
   refine List.all_eq_true.2 fun b hb => ?_
   have h5 := hrng b hb _ (head_mem (h2.bl b hb).1)
   exact decide_eq_true ⟨(h2.bl b hb).1, h5.1, by omega⟩
  unfold wkSorts
  rw [if_pos ⟨h9, hheads, by omega⟩]
 refine ⟨{ s with blocks := wkSortB s.blocks }, ?_, ?_⟩
 ·have h5 := Ev.bind (Arcs_ev N E hR.ends hR.ne (by omega) (by have := hR.N1; omega)) (f:=fun k near => (wkAll (wkRun (wkLeave wkOff (wkMore near) near) near k) N 0 (wkStart N E.length)).bind wkSorts)
   (Ev.bind h1 (f:=fun _ t => wkSorts t) (Ev.congr (fun _ => hso) (Ev.now _)))
  refine Ev.congr (fun k => ?_) h5
  unfold wkWalked
  rw [if_pos ⟨by omega, by have := hR.N1; omega, by omega⟩, zTn]
 ·refine ⟨h2.lc, fun j j0 j1 => ?_, ?_, fun b hb => hrng b ((hm b).1 hb), fun b hb => h2.bl b ((hm b).1 hb), fun b hb => h3.bk b ((hm b).1 hb), fun v v0 v1 => ?_, ?_, ?_⟩
  ·obtain ⟨b, hb, hj⟩ := hall j j0 j1
   exact ⟨b, (hm b).2 hb, hj⟩
  ·exact (List.Perm.flatten hperm).nodup_iff.2 hnd
  ·constructor
   ·intro hv
    obtain ⟨b, hb, h5⟩ := h3.c1 v v0 v1 hv
    exact ⟨b, (hm b).2 hb, h5⟩
   ·rintro ⟨b, hb, i, a, k, a', e1, e2, e3, e4⟩
    exact h3.c2 b ((hm b).1 hb) v i a k a' e1 e2 e3 e4
  ·have h5 : ((wkSortB s.blocks).map fun b => rd b 0).Nodup := (hperm.map _).nodup_iff.2 hheads
   rw [List.nodup_iff_pairwise_ne, List.pairwise_map] at h5
   exact (hsorted.and h5).imp (fun {a b} ⟨e1, e2⟩ => by omega)
  ·show (wkSortB s.blocks).length ≤ _
   rw [hperm.length_eq]; exact hlen
theorem progBlocks_ev {N : Nat} {E : List S43} (hR : Rt N E) (hr : rightI N E = 0) : ∃ s, Fin N E s ∧ Ev (fun k => parts_Blocks.f k N E) s.blocks := by
 obtain ⟨s, h1, h2⟩ := walked_ev hR
 have h3 := Right_ev (N : Int) E
 rw [hr] at h3
 exact ⟨s, h2, Ev.bind h3 (f:=fun k q => if q = 0 then (wkWalked k (N : Int) E).bind fun s => some s.blocks else some []) (Ev.congr (fun k => by rw [if_pos rfl]) (Ev.bind h1 (f:=fun _ s => some s.blocks) (Ev.now _)))⟩
theorem progBlocks_bad {n : Int} {E : List S43} (hr : rightI n E ≠ 0) : Ev (fun k => parts_Blocks.f k n E) [] :=
 Ev.bind (Right_ev n E) (f:=fun k q => if q = 0 then (wkWalked k n E).bind fun s => some s.blocks else some []) (Ev.congr (fun k => by rw [if_neg hr]) (Ev.now _))
theorem ptCuts_eq (N : Nat) (cut : List Bool) (hN : N ≤ 1048576) (d : Nat) : ∀ (v : Nat) (out : List Int), N - v = d → v ≤ N → out.length ≤ v → ptCuts cut d v out = some (out ++ ((ups N).drop v).filter fun u => rdOf false cut u) := by
 induction d with
 | zero =>
  intro v out hd hv ho
  obtain rfl : v = N := by omega
  rw [ptCuts, List.drop_of_length_le (by rw [ups_len]; exact Nat.le_refl _), List.filter_nil, List.append_nil]
 | succ d ih =>
  intro v out hd hv ho
  have hdr : (ups N).drop v = (v : Int) :: (ups N).drop (v + 1) := by
   rw [List.drop_eq_getElem_cons (by rw [ups_len]; omega)]
   simp [ups]
  rw [ptCuts, hdr]
  by_cases hc : rdOf false cut (v : Int) = true
  ·rw [if_pos hc, if_pos (by omega), List.filter_cons_of_pos hc, ih (v + 1) _ (by omega) (by omega) (by rw [List.length_append]; simp; omega), List.append_assoc, List.singleton_append]
  ·rw [if_neg hc, List.filter_cons_of_neg hc, ih (v + 1) out (by omega) (by omega) (by omega)]
theorem progCuts_ev {N : Nat} {E : List S43} (hR : Rt N E) (hr : rightI N E = 0) : ∃ s, Fin N E s ∧ Ev (fun k => parts_Cuts.f k N E) ((ups N).filter fun u => rdOf false s.cut u) := by
 obtain ⟨s, h1, h2⟩ := walked_ev hR
 have h3 := Right_ev (N : Int) E
 rw [hr] at h3
 refine ⟨s, h2, Ev.bind h3 (f:=fun k q => if q = 0 then (wkWalked k (N : Int) E).bind fun s => ptCuts s.cut s.cut.length 0 [] else some []) (Ev.congr (fun k => by rw [if_pos rfl]) (Ev.bind h1 (f:=fun _ s => ptCuts s.cut s.cut.length 0 []) (Ev.congr (fun k => ?_) (Ev.now _))))⟩
 rw [h2.lc, ptCuts_eq N s.cut hR.N1 N 0 [] rfl (Nat.zero_le _) (Nat.zero_le _), List.drop_zero, List.nil_append]
theorem progCuts_bad {n : Int} {E : List S43} (hr : rightI n E ≠ 0) : Ev (fun k => parts_Cuts.f k n E) [] :=
 Ev.bind (Right_ev n E) (f:=fun k q => if q = 0 then (wkWalked k n E).bind fun s => ptCuts s.cut s.cut.length 0 [] else some []) (Ev.congr (fun k => by rw [if_neg hr]) (Ev.now _))
end Go.Proofs.Ytkiemlbobcklpaa.A
