/- The machine's step does what the model's operation does; no conditions. -/
import Derived.Test.YtgekngfnhhdamaaM14
set_option linter.unusedVariables false
set_option linter.unusedSimpArgs false
namespace Go.Proofs.YtgekngfnhhdamaaM
open Go
section
variable {P : Program} {o : Oper} {a : Act} {w w0 : World} {Q : Exit → Act → World → Prop} {μ : Mp} {id : Id} {tm : List AV} {h h' : AH} {v : AV} {C : CF}
theorem ropds_nil {l : List Operand} (e : ropds l = some []) : l = [] := by
  cases l with
  | nil => rfl
  | cons x l => unfold ropds at e; split at e <;> cases e
theorem ropds_cons {l : List Operand} {y : Opd} {ys : List Opd} (e : ropds l = some (y :: ys)) : ∃ x l', l = x :: l' ∧ ropd x = some y ∧ ropds l' = some ys := by
  cases l with
  | nil => cases e
  | cons x l => unfold ropds at e; split at e <;> cases e; rename_i h1 h2; exact ⟨x, l, rfl, h1, h2⟩
theorem arr_of {α : Type} {l : Array α} {m : List α} (e : l.toList = m) : l = m.toArray := by rw [← e]
theorem bin_sim (R : Rel w0 μ h w) (ht : TR μ tm a.tmps) {op : BinOp} {t u : TypeId} {x y : Operand} {x' y' : Opd} {r : AV × AH} (ho : o.op = .binOp op t x y u) (hx : ropd x = some x') (hy : ropd y = some y') (e : aop C id (.bin op x' y') tm h = some r) : o.wp P a w (Post w0 μ id o a r.1 r.2) Q := by
  simp only [aop] at e
  obtain ⟨z, hz, rfl⟩ := Option.map_eq_some_iff.1 e
  exact sim_bin R ht ho hx hy hz
theorem eq_sim (R : Rel w0 μ h w) (ht : TR μ tm a.tmps) {neg : Bool} {t u : TypeId} {x y : Operand} {op : IOp} {r : AV × AH} (ho : o.op = .binOp (if neg then .neq else .eql) t x y u) (hr : req P (if neg then .neq else .eql) neg t x y = some op) (e : aop C id op tm h = some r) :
    o.wp P a w (Post w0 μ id o a r.1 r.2) Q := by
  unfold req at hr
  split at hr
  case h_2 => cases hr
  rename_i x' y' hx hy
  have eqn : ∀ {kind d}, P.underlying t = some d → ((kind = 0 ∧ d = .bool) ∨ (kind = 1 ∧ ∃ e, d = .pointer e) ∨ (kind = 2 ∧ ∃ e, d = .slice e) ∨ (kind = 3 ∧ ∃ p q r, d = .func p q r) ∨ (kind = 4 ∧ (∃ ms, d = .interface ms) ∧ (isConst x || isConst y) = true)) →
      aop C id (.eqn kind neg x' y') tm h = some r → o.wp P a w (Post w0 μ id o a r.1 r.2) Q := by
    intro kind d hd hk he
    simp only [aop] at he
    obtain ⟨z, hz, rfl⟩ := Option.map_eq_some_iff.1 he
    exact sim_eqn R ht ho hd hk hx hy hz
  split at hr
  · cases hr; exact bin_sim R ht ho hx hy e
  · cases hr; exact bin_sim R ht ho hx hy e
  · rename_i hd; cases hr; exact eqn hd (.inl ⟨rfl, rfl⟩) e
  · rename_i hd; cases hr; exact eqn hd (.inr (.inl ⟨rfl, _, rfl⟩)) e
  · rename_i hd; cases hr; exact eqn hd (.inr (.inr (.inl ⟨rfl, _, rfl⟩))) e
  · rename_i hd; cases hr; exact eqn hd (.inr (.inr (.inr (.inl ⟨rfl, _, _, _, rfl⟩)))) e
  · rename_i hd
    split at hr <;> cases hr
    rename_i hc
    exact eqn hd (.inr (.inr (.inr (.inr ⟨rfl, ⟨_, rfl⟩, hc⟩)))) e
  · obtain ⟨ks, hks, rfl⟩ := Option.map_eq_some_iff.1 hr
    simp only [aop] at e
    split at e
    · rename_i ex ey
      obtain ⟨z, hz, rfl⟩ := Option.map_eq_some_iff.1 e
      exact sim_eqs R ht ho hks hx hy ex ey hz
    · cases e
  · cases hr
theorem call_sim (hC : CSim P w0 C) (R : Rel w0 μ h w) (ht : TR μ tm a.tmps) (hf : MFree id μ) {c : Call} {op : IOp} {r : AV × AH} (ho : o.op = .call c) (hr : rcall P c = some op) (e : aop C id op tm h = some r) : o.wp P a w (Post w0 μ id o a r.1 r.2) Q := by
  obtain ⟨callee, args, ats⟩ := c
  unfold rcall at hr
  simp only at hr
  split at hr
  · cases hr
  rename_i as has
  split at hr
  · split at hr <;> cases hr
    simp only [aop] at e
    exact sim_callF hC R ht hf ho rfl has e
  · rename_i x hx
    obtain ⟨y, hy, rfl⟩ := Option.map_eq_some_iff.1 hr
    simp only [aop] at e
    split at e
    · rename_i f b d ef
      exact sim_callV hC R ht hf ho rfl hy has ef e
    · cases e
  · cases hr
  · rename_i b
    split at hr
    · -- len
      rename_i t x' hats
      obtain ⟨x, l', hl, hx, hn⟩ := ropds_cons has
      have := ropds_nil hn
      subst this
      rw [arr_of hl, arr_of hats] at ho
      split at hr
      · rename_i hu; cases hr; simp only [aop] at e
        split at e <;> cases e
        rename_i ey; exact sim_lenS R ht ho hu hx ey
      · rename_i hu; cases hr; simp only [aop] at e
        obtain ⟨n, hn, rfl⟩ := Option.map_eq_some_iff.1 e
        unfold alen at hn
        split at hn <;> cases hn
        · rename_i ey; exact sim_lenL R ht ho hu hx (.inl ⟨ey, rfl⟩)
        · rename_i ey; exact sim_lenL R ht ho hu hx (.inr ⟨_, _, _, ey⟩)
      · rename_i hu; cases hr; simp only [aop] at e; cases e; exact sim_lenA R ho hu
      · rename_i hu
        split at hr <;> cases hr
        rename_i hu2; simp only [aop] at e; cases e; exact sim_lenP R ho hu hu2
      · cases hr
    · -- cap
      rename_i t x' hats
      obtain ⟨x, l', hl, hx, hn⟩ := ropds_cons has
      have := ropds_nil hn
      subst this
      rw [arr_of hl, arr_of hats] at ho
      split at hr
      · rename_i hu; cases hr; simp only [aop] at e
        split at e <;> cases e
        rename_i ey; exact sim_capL R ht ho hu hx ey
      · cases hr
    · -- max
      cases hr
      simp only [aop] at e
      obtain ⟨z, hz, rfl⟩ := Option.map_eq_some_iff.1 e
      exact sim_maxi (big := true) R ht ho has hz
    · cases hr
      simp only [aop] at e
      obtain ⟨z, hz, rfl⟩ := Option.map_eq_some_iff.1 e
      exact sim_maxi (big := false) R ht ho has hz
    · -- append
      rename_i t u s' x' hats
      obtain ⟨s, l', hl, hs, hn⟩ := ropds_cons has
      obtain ⟨x, l'', hl', hx, hn'⟩ := ropds_cons hn
      have := ropds_nil hn'
      subst this
      subst hl'
      rw [arr_of hl, arr_of hats] at ho
      have h1 := ropd_sim ht hx
      split at hr
      · rename_i el el' hu hu'
        split at hr
        case h_2 => cases hr
        rename_i z i hz hi
        split at hr <;> cases hr
        rename_i hb1
        simp only [aop] at e
        split at e
        · rename_i t' hev
          split at e
          case isFalse => cases e
          rename_i hk
          rw [hev] at h1; simp only [VR] at h1
          have S : Src P i.size u (a.eval x) t'.size (byteCells t') w := by
            rw [h1, hk]
            have S0 : Src P 1 u (.string t') t'.size (byteCells t') w := ⟨.inl ⟨_, hu'⟩, fun _ => rfl, firstCells_string t' w, firstCells_string t' w.drew, by rw [byteCells_length, Nat.mul_one], fun q hq => by
              obtain ⟨_, _, rfl⟩ := List.mem_map.1 hq
              rfl⟩
            exact S0
          refine sim_app R ht hf ho hu hi hz hb1 hs e (fun _ => ⟨_, bytes_VRs t', S⟩) (fun h0 => ?_)
          have hb0 : byteCells t' = [] := List.eq_nil_of_length_eq_zero (by rw [byteCells_length]; exact h0)
          rw [h0, hb0] at S; exact S
        · rename_i hne
          split at e
          · rename_i n cs hsl
            refine sim_app R ht hf ho hu hi hz hb1 hs e (fun hsc => src_slice R hu' h1 hsl hsc) (fun h0 => ?_)
            subst h0
            exact src_none R hu' h1 hsl
          · cases e
      · rename_i el kn hu hu'
        split at hr
        case h_2 => cases hr
        rename_i z i hz hi
        split at hr <;> cases hr
        rename_i hb1
        simp only [aop] at e
        split at e
        · rename_i id1 f m sz' c k ex ey
          split at e
          · rename_i b hb
            split at e
            · rename_i hk
              obtain ⟨rfl, k1, k2, k3, k4⟩ := hk
              cases e
              exact sim_appZ R ht hf ho hu hu' hi hz hb1.1 hb1.2 hs hx ex ey hb k1 k2 k3 k4
            · cases e
          · cases e
        · cases e
      · rename_i el hu hu'
        split at hr
        case h_2 => cases hr
        rename_i z i hz hi
        split at hr <;> cases hr
        rename_i hb1
        simp only [aop] at e
        split at e
        · rename_i t' hev
          split at e
          case isFalse => cases e
          rename_i hk
          rw [hev] at h1; simp only [VR] at h1
          have S : Src P i.size u (a.eval x) t'.size (byteCells t') w := by
            rw [h1, hk]; exact Src.ofString w hu' t'
          refine sim_app R ht hf ho hu hi hz hb1.2 hs e (fun _ => ⟨_, bytes_VRs t', S⟩) (fun h0 => ?_)
          have hb0 : byteCells t' = [] := List.eq_nil_of_length_eq_zero (by rw [byteCells_length]; exact h0)
          rw [h0, hb0] at S; exact S
        · rename_i hne
          split at e
          · rename_i n cs hsl
            have S1 : ∀ us, VRs μ cs us → ∀ hS : Src P i.size u (a.eval x) n us w, True := fun _ _ _ => trivial
            rcases aslice_sim R h1 hsl with ⟨e1, rfl, rfl⟩ | ⟨ad, cap, us, e1, e2, e3, e4, e5⟩
            · have S : Src P i.size u (a.eval x) 0 [] w := by
                rw [e1]
                exact ⟨.inr hu', fun _ => rfl, run_firstCells_none w i.size 0 0 0, run_firstCells_none w.drew i.size 0 0 0, by simp, fun _ hq => by cases hq⟩
              exact sim_app R ht hf ho hu hi hz hb1.2 hs e (fun _ => ⟨[], .nil, S⟩) (fun _ => S)
            · have S : cs.all AV.scalar = true → Src P i.size u (a.eval x) n us w := fun hsc => by
                rw [e1]
                exact ⟨.inr hu', fun _ => rfl, run_firstCells_some w i.size n ad n cap us e4 e5, run_firstCells_some w.drew i.size n ad n cap us e4 (by simpa using e5), e4, e3.scalars hsc⟩
              refine sim_app R ht hf ho hu hi hz hb1.2 hs e (fun hsc => ⟨us, e3, S hsc⟩) (fun h0 => ?_)
              subst h0
              have : us = [] := List.eq_nil_of_length_eq_zero (by simpa using e4)
              subst this
              have hc : cs = [] := by have := e3.length; simpa using this
              exact S (by simp [hc])
          · cases e
      · cases hr
    · -- copy
      rename_i t ts d' s' hats
      obtain ⟨d, l', hl, hd, hn⟩ := ropds_cons has
      obtain ⟨s, l'', hl', hs, hn'⟩ := ropds_cons hn
      have := ropds_nil hn'
      subst this
      subst hl'
      rw [arr_of hl] at ho
      split at hr
      case h_2 => cases hr
      rename_i el hu
      obtain ⟨sz, hsz, rfl⟩ := Option.map_eq_some_iff.1 hr
      have hts : ats[0]? = some t := by rw [← Array.getElem?_toList, hats]; rfl
      simp only [aop] at e
      split at e
      · rename_i n cs i f m sz' es ed
        split at e
        case isFalse => cases e
        rename_i hk
        subst hk
        obtain ⟨z, hz, rfl⟩ := Option.map_eq_some_iff.1 e
        exact sim_cpy (ts := ts) R ht ho hts hu hsz hd hs es (.inr ⟨i, f, m, ed, hz, rfl⟩)
      · rename_i es ed
        cases e
        exact sim_cpy (ts := ts) R ht ho hts hu hsz hd hs es (.inl ⟨ed, rfl, rfl⟩)
      · cases e
    · -- clear
      rename_i t s' hats
      obtain ⟨s, l', hl, hs, hn⟩ := ropds_cons has
      have := ropds_nil hn
      subst this
      rw [arr_of hl, arr_of hats] at ho
      split at hr
      case h_2 => cases hr
      rename_i el hu
      split at hr
      case h_2 => cases hr
      rename_i sz z hsz hz
      cases hr
      simp only [aop] at e
      split at e
      · rename_i es; cases e; exact sim_clr R ht ho hu hsz hz hs (.inl ⟨es, rfl⟩)
      · rename_i i f m sz' es
        split at e
        case isFalse => cases e
        rename_i hk
        subst hk
        obtain ⟨y, hy, rfl⟩ := Option.map_eq_some_iff.1 e
        exact sim_clr R ht ho hu hsz hz hs (.inr ⟨i, f, m, es, hy⟩)
      · cases e
    · cases hr
/-- One of the machine's operations, told out of the model's, does what that does. -/
theorem op_sim (hC : CSim P w0 C) (R : Rel w0 μ h w) (ht : TR μ tm a.tmps) (hf : MFree id μ) {op : IOp} {r : AV × AH} (hr : rsvOp P o.op = some op) (e : aop C id op tm h = some r) : o.wp P a w (Post w0 μ id o a r.1 r.2) Q := by
  generalize ho : o.op = oo at hr
  unfold rsvOp at hr
  split at hr
  · obtain ⟨y, hy, rfl⟩ := Option.map_eq_some_iff.1 hr; cases e; exact sim_mov R ht (.inl ho) hy
  · obtain ⟨y, hy, rfl⟩ := Option.map_eq_some_iff.1 hr; cases e; exact sim_mov R ht (.inr ho) hy
  · split at hr <;> cases hr
    rename_i h1 h2 h3
    simp only [aop] at e
    split at e <;> cases e
    rename_i hev
    exact sim_pick R ht ho h1 h2 h3 hev
  · obtain ⟨y, hy, rfl⟩ := Option.map_eq_some_iff.1 hr
    simp only [aop] at e
    split at e <;> cases e
    exact sim_alloc R hf ho hy
  · split at hr <;> cases hr
    rename_i hn hx
    simp only [aop] at e
    split at e <;> cases e
    rename_i hk
    exact sim_box R ht hf ho hx hk.1
  · split at hr
    · rename_i z fs hz hu
      split at hr
      case isFalse => cases hr
      rename_i hs
      obtain ⟨y, hy, rfl⟩ := Option.map_eq_some_iff.1 hr
      simp only [aop] at e
      obtain ⟨l, hl, rfl⟩ := Option.map_eq_some_iff.1 e
      exact sim_buildF R ht ho hz hu hs hy hl
    · rename_i z n el hz hu
      split at hr
      · rename_i sz hs
        obtain ⟨y, hy, rfl⟩ := Option.map_eq_some_iff.1 hr
        simp only [aop] at e
        obtain ⟨l, hl, rfl⟩ := Option.map_eq_some_iff.1 e
        exact sim_buildA R ht ho hz hu hs hy hl
      · cases hr
    · cases hr
  · split at hr
    case h_2 => cases hr
    rename_i el hu
    split at hr
    case h_2 => cases hr
    rename_i sz z l hs hz hl
    split at hr <;> cases hr
    rename_i hn
    simp only [aop] at e
    split at e
    · rename_i l' hl'
      split at e <;> cases e
      rename_i hsc
      exact sim_buildS R ht hf ho hu hs hz hl hn hl' hsc
    · cases e
  · split at hr <;> cases hr
    rename_i sh y hsh hy
    simp only [aop] at e
    split at e
    · rename_i hev
      split at e
      · obtain ⟨z, hz, rfl⟩ := Option.map_eq_some_iff.1 e; exact sim_load1 R ht ho hsh hy hev hz
      · obtain ⟨z, hz, rfl⟩ := Option.map_eq_some_iff.1 e; exact sim_loadn R ht ho hsh hy hev hz
    · cases e
  · split at hr <;> cases hr
    rename_i n y y' hn hy hy'
    simp only [aop] at e
    split at e
    · rename_i hev
      split at e
      · rename_i hk
        obtain ⟨z, hz, rfl⟩ := Option.map_eq_some_iff.1 e
        exact sim_store R ht ho hn hy hy' hev hk hz
      · cases e
    · cases e
  · obtain ⟨y, hy, rfl⟩ := Option.map_eq_some_iff.1 hr
    simp only [aop] at e
    split at e
    · rename_i i f hev; cases e; rw [← hev]; exact sim_nilck R ht ho hy (.inl ⟨_, _, hev⟩)
    · rename_i f b c hev; cases e; rw [← hev]; exact sim_nilck R ht ho hy (.inr (.inl ⟨_, _, _, hev⟩))
    · rename_i t u hev; cases e; rw [← hev]; exact sim_nilck R ht ho hy (.inr (.inr ⟨_, _, hev⟩))
    · cases e
  · exact eq_sim (neg := false) R ht ho hr e
  · exact eq_sim (neg := true) R ht ho hr e
  · split at hr <;> cases hr
    rename_i h1 h2
    exact bin_sim R ht ho h1 h2 e
  · obtain ⟨y, hy, rfl⟩ := Option.map_eq_some_iff.1 hr
    simp only [aop] at e
    obtain ⟨z, hz, rfl⟩ := Option.map_eq_some_iff.1 e
    exact sim_un R ht ho hy hz
  · split at hr
    · rename_i hx hs hd
      cases hr
      simp only [aop] at e
      obtain ⟨z, hz, rfl⟩ := Option.map_eq_some_iff.1 e
      exact sim_conv R ht ho hs hd hx hz
    · rename_i hx hs hd
      cases hr
      simp only [aop] at e
      split at e <;> cases e
      rename_i hev
      exact sim_sstr R ht ho hs hd hx hev
    · rename_i hx hs hd
      split at hr <;> cases hr
      rename_i he hsz
      simp only [aop] at e
      split at e <;> cases e
      rename_i hev
      exact sim_s2b R ht hf ho hs hd he hx hev
    · rename_i hx hs hd
      split at hr <;> cases hr
      rename_i he
      simp only [aop] at e
      split at e
      · rename_i n l hsl
        obtain ⟨z, hz, rfl⟩ := Option.map_eq_some_iff.1 e
        exact sim_b2s R ht ho hs he hd hx hsl hz
      · cases e
    · cases hr
  · split at hr
    · cases hr
    · rename_i hne hu hx
      cases hr; cases e
      exact sim_mkI R ht ho hu (fun ms he => hne ms he) hx
    · cases hr
  · split at hr <;> cases hr
    rename_i h1 h2
    cases e
    exact sim_mkF R ht ho h1 h2
  · split at hr
    case h_2 => cases hr
    rename_i hu hx hy
    split at hr <;> cases hr
    rename_i hi hz
    simp only [aop] at e
    split at e
    · rename_i n c en ec
      split at e <;> cases e
      rename_i hk
      exact sim_mkS R ht hf ho hu hi hz hx hy en ec hk.1 hk.2.1 hk.2.2.1 hk.2.2.2.1
    · cases e
  · split at hr
    case h_2 => cases hr
    rename_i hx hl hh
    split at hr
    · rename_i hu
      cases hr
      simp only [aop] at e
      split at e
      · rename_i hev
        obtain ⟨z, hz, rfl⟩ := Option.map_eq_some_iff.1 e
        exact sim_slcStr R ht ho hu hx hl hh hev hz
      · cases e
    · rename_i hu
      obtain ⟨sz, hs, rfl⟩ := Option.map_eq_some_iff.1 hr
      simp only [aop] at e
      split at e
      · rename_i hev
        split at e
        · rename_i hk
          subst hk
          obtain ⟨z, hz, rfl⟩ := Option.map_eq_some_iff.1 e
          exact sim_slcS R ht ho hu hs hx hl hh hev hz
        · cases e
      · rename_i hev
        split at e
        · rename_i hk
          subst hk
          obtain ⟨z, hz, rfl⟩ := Option.map_eq_some_iff.1 e
          exact sim_slcK R ht ho hu hs hx hl hh hev hz
        · cases e
      · rename_i hev
        obtain ⟨z, hz, rfl⟩ := Option.map_eq_some_iff.1 e
        exact sim_slcN R ht ho hu hs hx hl hh hev hz
      · cases e
    · rename_i hu
      obtain ⟨sz, hs, rfl⟩ := Option.map_eq_some_iff.1 hr
      simp only [aop] at e
      split at e
      · rename_i hev
        split at e
        · rename_i b hb
          split at e
          · rename_i hk
            obtain ⟨z, hz, rfl⟩ := Option.map_eq_some_iff.1 e
            exact sim_slcA R ht ho hu hs hx hl hh hev hb hk hz
          · cases e
        · cases e
      · cases e
    · cases hr
  · split at hr
    case h_2 => cases hr
    rename_i hx hl hh hm
    split at hr
    case h_2 => cases hr
    rename_i hu
    obtain ⟨sz, hs, rfl⟩ := Option.map_eq_some_iff.1 hr
    simp only [aop] at e
    split at e
    · rename_i hev em
      split at e
      · rename_i hk
        obtain ⟨rfl, hk1, hk2⟩ := hk
        obtain ⟨z, hz, rfl⟩ := Option.map_eq_some_iff.1 e
        exact sim_slcS3 R ht ho hu hs hx hl hh hm hev em hk1 hk2 hz
      · cases e
    · cases e
  · split at hr
    case h_2 => cases hr
    rename_i hu hx
    split at hr
    case h_2 => cases hr
    rename_i fd hfd
    split at hr
    case h_2 => cases hr
    rename_i n hn
    split at hr <;> cases hr
    rename_i h0
    simp only [aop] at e
    split at e <;> cases e
    rename_i hev
    exact sim_fld R ht ho hu hfd hn h0 hx hev
  · split at hr
    case h_2 => cases hr
    rename_i hu hx
    split at hr
    case h_2 => cases hr
    rename_i fd hfd
    obtain ⟨sh, hsh, rfl⟩ := Option.map_eq_some_iff.1 hr
    simp only [aop] at e
    split at e
    · rename_i hev
      obtain ⟨z, hz, rfl⟩ := Option.map_eq_some_iff.1 e
      exact sim_fget R ht ho hu hfd hsh hx hev hz
    · cases e
  · split at hr
    · rename_i hu hx hy
      obtain ⟨sz, hs, rfl⟩ := Option.map_eq_some_iff.1 hr
      simp only [aop] at e
      split at e
      · rename_i hev hei
        split at e <;> cases e
        rename_i hk
        obtain ⟨rfl, hk0, hk1⟩ := hk
        exact sim_ixS R ht ho hu hs hx hy hev hei hk0 hk1
      · cases e
    · rename_i hu hx hy
      obtain ⟨sz, hs, rfl⟩ := Option.map_eq_some_iff.1 hr
      simp only [aop] at e
      split at e
      · rename_i hev hei
        split at e <;> cases e
        rename_i hk
        exact sim_ixA R ht ho hu hs hx hy hev hei hk.1 hk.2
      · cases e
    · cases hr
  · split at hr
    · rename_i hu hx hy
      split at hr <;> cases hr
      rename_i hs hsh
      simp only [aop] at e
      split at e
      · rename_i hev hei
        split at e
        · rename_i hk
          obtain ⟨z, hz, rfl⟩ := Option.map_eq_some_iff.1 e
          exact sim_ixG R ht ho hu hs hsh hx hy hev hei hk.1 hk.2 hz
        · cases e
      · cases e
    · rename_i hu hx hy
      cases hr
      simp only [aop] at e
      split at e
      · rename_i hev hei
        split at e
        · rename_i hk
          obtain ⟨z, hz, rfl⟩ := Option.map_eq_some_iff.1 e
          exact sim_ixStr R ht ho hu hx hy hev hei hk hz
        · cases e
      · cases e
    · cases hr
  · obtain ⟨y, hy, rfl⟩ := Option.map_eq_some_iff.1 hr
    simp only [aop] at e
    split at e
    · rename_i hev
      obtain ⟨z, hz, rfl⟩ := Option.map_eq_some_iff.1 e
      exact sim_ext R ht ho hy hev hz
    · cases e
  · exact call_sim hC R ht hf ho hr e
  · cases hr
end
end Go.Proofs.YtgekngfnhhdamaaM
