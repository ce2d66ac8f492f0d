/- The machine's code does what the model's does; no conditions. -/
import Derived.Test.YtgekngfnhhdamaaM22
import Derived.Deep.LoopGhost
set_option linter.unusedVariables false
set_option linter.unusedSimpArgs false
namespace Go.Proofs.YtgekngfnhhdamaaM
open Go

/-! ### code, told -/
def orAll (M : List Nat) : List Nat → Nat
  | [] => 0
  | j :: l => one j ||| M.getD j 0 ||| orAll M l
def masksGo : List Oper → List Nat → List Nat
  | [], acc => acc
  | o :: l, acc => masksGo l (acc ++ [orAll acc (deps o)])
def masksOf (ops : List Oper) : List Nat := masksGo ops []
def chkB (ops : List Oper) (M : List Nat) : Bool := ops.zipIdx.all fun r => sub (M.getD r.2 0) (orAll M (deps r.1))
def masked (m : Option (List Nat)) (c : ICode) : ICode := match m with | some l => .seq c (.mask l) | none => c
def lmasked (m : Option (List Nat)) (c : ICode) : ICode := match m with | some l => .seq (.mask l) c | none => c
def rsv (P : Program) : Code → List Phases → List (Option (List Nat)) → Option (ICode × List Phases × List (Option (List Nat)))
  | .skip, ps, ms => some (.skip, ps, ms)
  | .region _ ops draw, ps, ms =>
    match rops P ops ops.toList with
    | none => none
    | some io =>
      if draw then
        match ps with
        | [] => none
        | p :: ps => if acyclic ops && chkB ops.toList (masksOf ops.toList) && chkPlan io (masksOf ops.toList) p then some (.reg p.flat io, ps, ms) else none
      else some (.reg ((List.range io.length).map fun i => (i, false)) io, ps, ms)
  | .seq a b, ps, ms =>
    match rsv P a ps ms with
    | none => none
    | some (a', ps, ms) =>
      match rsv P b ps ms with
      | none => none
      | some (b', ps, ms) => some (.seq a' b', ps, ms)
  | .cond x a b, ps, ms =>
    match ropd x, rsv P a ps ms with
    | some x', some (a', ps, ms) =>
      match rsv P b ps ms with
      | some (b', ps, m :: ms) => some (masked m (.cond x' a' b'), ps, ms)
      | _ => none
    | _, _ => none
  | .block i a, ps, ms =>
    match rsv P a ps ms with
    | some (a', ps, m :: ms) => some (masked m (.block i a'), ps, ms)
    | _ => none
  | .loop a, ps, m :: ms =>
    match rsv P a ps ms with
    | some (a', ps, ms) => some (.loop (lmasked m a'), ps, ms)
    | none => none
  | .exit i, ps, ms => some (.exit i, ps, ms)
  | .ret, ps, ms => some (.ret, ps, ms)
  | _, _, _ => none
def conv : Ex → Exit
  | .norm => .normal
  | .exit i => .exit i
  | .ret => .ret
def KFree (π : Id) (k : Nat) (μ : Mp) : Prop := ∀ j q, k ≤ q → (q :: π) <:+ j → μ j = none
def MDomK (π : Id) (k m : Nat) (μ μ' : Mp) : Prop := ∀ j, μ' j ≠ none → μ j ≠ none ∨ ∃ q, k ≤ q ∧ q < m ∧ (q :: π) <:+ j
theorem MDomK.refl (π : Id) (k m : Nat) (μ : Mp) : MDomK π k m μ μ := fun _ h => .inl h
theorem MDomK.trans {π : Id} {k m p : Nat} {a b c : Mp} (hk : k ≤ m) (hm : m ≤ p) (h : MDomK π k m a b) (h' : MDomK π m p b c) : MDomK π k p a c := fun j hj => by
  rcases h' j hj with h1 | ⟨q, h1, h2, h3⟩
  · rcases h j h1 with h1 | ⟨q, h1, h2, h3⟩
    · exact .inl h1
    · exact .inr ⟨q, h1, by omega, h3⟩
  · exact .inr ⟨q, by omega, h2, h3⟩
theorem MDomK.dom {π : Id} {k m : Nat} {a b : Mp} (h : MDomK π k m a b) : MDom π a b := fun j hj => (h j hj).imp (fun x => x) fun ⟨q, _, _, hs⟩ => (List.suffix_cons q π).trans hs
theorem KFree.step {π : Id} {k m : Nat} {μ μ' : Mp} (h : KFree π k μ) (hk : k ≤ m) (hd : MDomK π k m μ μ') : KFree π m μ' := fun j q hq hs => by
  cases hj : μ' j with
  | none => rfl
  | some x =>
    rcases hd j (by rw [hj]; simp) with h1 | ⟨q', h1, h2, h3⟩
    · exact absurd (h j q (by omega) hs) h1
    · have := suffix_cons_eq h3 hs
      omega
section
variable {P : Program} {w0 : World} {Q : Exit → Act → World → Prop} {C : CF} {π : Id}
theorem keep_get : ∀ (live : List Nat) (l : List AV) (i t : Nat), (keep live i l).getD t .und = .und ∨ (keep live i l).getD t .und = l.getD t .und
  | live, [], i, t => .inl (by simp [keep])
  | live, v :: l, i, 0 => by
    simp only [keep, List.getD_cons_zero]
    split
    · exact .inr rfl
    · exact .inl rfl
  | live, v :: l, i, t + 1 => by
    simp only [keep, List.getD_cons_succ]
    exact keep_get live l (i + 1) t
theorem keep_len : ∀ (live : List Nat) (l : List AV) (i : Nat), (keep live i l).length = l.length
  | live, [], i => rfl
  | live, v :: l, i => by simp [keep, keep_len live l]
theorem TR.keep {μ : Mp} {tm : List AV} {ts : Array Value} (h : TR μ tm ts) (live : List Nat) : TR μ (keep live 0 tm) ts := by
  refine ⟨by rw [keep_len]; exact h.len, fun t => ?_⟩
  rcases keep_get live tm 0 t with e | e
  · rw [e]; exact VR.und _
  · rw [e]; exact h.get t
theorem aplan_seq {κ : Id} {ops : List IOper} : ∀ (l : List Nat) (tm : List AV) (h : AH), aplan C κ ops (l.map fun i => (i, false)) tm h = aseq C κ ops l tm h
  | [], tm, h => rfl
  | i :: l, tm, h => by
    rw [List.map_cons, aplan_cons, aseq]
    cases ops[i]? with
    | none => rfl
    | some o =>
      simp only []
      cases astep C (i :: κ) o tm h with
      | none => rfl
      | some r => simp only [Bool.false_eq_true, if_false]; exact aplan_seq l r.1 r.2
theorem topoB_of {ops : Array Oper} {M : List Nat} {n : Nat} (hn : n = ops.size) (hB : chkB ops.toList M = true) : ∀ {l : List Nat} {done : Nat → Bool}, Topo ops done l → Closed (Bof n M) (fun i => done i = true) → TopoB n (Bof n M) (fun i => done i = true) l
  | [], done, ht, hc => by subst hn; exact ht
  | i :: l, done, ht, hc => by
    obtain ⟨h1, ⟨o, ho, h2⟩, h3⟩ := ht
    have hi := (Array.getElem?_eq_some_iff.1 ho).1
    have hBi : ∀ j ∈ Bof n M i, done j = true := by
      intro j hj
      have hs := List.all_eq_true.1 hB (o, i) (List.mk_mem_zipIdx_iff_getElem?.2 (by simpa using ho))
      have hb := sub_spec hs (mem_Bof.1 hj).2
      have key : ∀ (ds : List Nat), (∀ d ∈ ds, done d = true) → (orAll M ds).testBit j = true → done j = true := by
        intro ds
        induction ds with
        | nil => intro _ h; simp [orAll] at h
        | cons d ds ih =>
          intro hd h
          simp only [orAll, Nat.testBit_or, Bool.or_eq_true, one_spec] at h
          rcases h with (h | h) | h
          · subst h; exact hd _ (by simp)
          · exact hc d (hd d (by simp)) j (mem_Bof.2 ⟨(mem_Bof.1 hj).1, h⟩)
          · exact ih (fun x hx => hd x (by simp [hx])) h
      exact key _ h2 hb
    refine ⟨by simp [h1], by omega, hBi, ?_⟩
    have hfun : (fun j => done j = true ∨ j = i) = fun j => (fun j => if j = i then true else done j) j = true := by
      funext j
      by_cases hj : j = i <;> simp [hj]
    rw [hfun]
    refine topoB_of hn hB h3 ?_
    intro j hj q hq
    by_cases hqi : q = i
    · simp [hqi]
    · simp only [hqi, if_false]
      by_cases hji : j = i
      · subst hji; exact hBi q hq
      · simp only [hji, if_false] at hj
        exact hc j hj q hq
theorem MDom_K {k : Nat} {μ μ' : Mp} (h : MDom (k :: π) μ μ') : MDomK π k (k + 1) μ μ' := fun j hj => (h j hj).imp (fun x => x) fun hs => ⟨k, by omega, by omega, hs⟩
theorem region_sim (hm : P.follows .mixedOrders = true) (hC : CSim P w0 C) (hd : CDom C) (hfr : CFrame C) {id : Nat} {ops : Array Oper} {draw : Bool} {ps ps' : List Phases} {ms ms' : List (Option (List Nat))} {ic : ICode} (hr : rsv P (.region id ops draw) ps ms = some (ic, ps', ms'))
    {n k : Nat} {tm : List AV} {h : AH} {e : Ex} {k' : Nat} {tm' : List AV} {h' : AH} (he : aexec C π n ic k tm h = some (e, k', tm', h')) {μ : Mp} {a : Act} {w : World} (ht : TR μ tm a.tmps) (R : Rel w0 μ h w) (hf : KFree π k μ)
    (HQ : ∀ μ' a' w', Ext μ μ' → MDomK π k k' μ μ' → TR μ' tm' a'.tmps → Rel w0 μ' h' w' → a'.defers = a.defers → Q (conv e) a' w') : (Code.region id ops draw).wp P Q a w := by
  simp only [rsv] at hr
  split at hr
  · cases hr
  rename_i io hio
  have hlen := rops_len hio
  have hfr' : ∀ i, MFree (i :: (k :: π)) μ := fun i j hs => hf j k (Nat.le_refl _) ((List.suffix_cons i (k :: π)).trans hs)
  cases n with
  | zero => simp [aexec] at he
  | succ n =>
  split at hr
  · rename_i hdr
    subst hdr
    split at hr
    · cases hr
    rename_i p ps2
    split at hr <;> cases hr
    rename_i hc
    simp only [Bool.and_eq_true] at hc
    obtain ⟨⟨hac, hB⟩, hpl⟩ := hc
    obtain ⟨x, hx, hx2⟩ := reg_inv.1 he
    obtain ⟨tmN, hN⟩ := x
    cases hx2
    refine wp_region_draw fun t => ?_
    have hok := chkPlan_ok hpl
    have htopo := topo_schedule hm hac t
    have hsz : io.length = ops.size := by rw [hlen]; simp
    have hTB := topoB_of hsz hB htopo (fun j hj => by simp at hj)
    obtain ⟨bl, hbl⟩ := Classical.axiomOfChoice (good_ex hok hx)
    have hfree : ∀ x, (k :: π) <:+ x → h x = none := fun x hs => R.tot x (hf x k (Nat.le_refl _) hs)
    have hseq := conf hd hfr hok hx hfree hbl (l := Region.schedule (P.follows .mixedOrders) ops t) (D := fun i => (fun _ => false : Nat → Bool) i = true) (tm := tm) (h := h) (k := 0) (tmk := tm) (Hk := h) hTB
      ⟨rfl, fun j o t hj => by simp at hj, fun t _ => rfl⟩ (fun j hj => by simp at hj) (fun i hi => by simp at hi) (Nat.zero_le _) (by simp [Phases.pre, aplan]) (fun j q _ => by simp) (fun i hi => by simp [Phases.pre, xs] at hi) (XS_empty (by simp)).symm
    have hnd : ∀ {l : List Nat} {D : Nat → Prop}, TopoB io.length (Bof io.length (masksOf ops.toList)) D l → l.Nodup ∧ ∀ i ∈ l, ¬ D i := by
      intro l
      induction l with
      | nil => intro D _; exact ⟨List.nodup_nil, fun i hi => by cases hi⟩
      | cons i l ih =>
        intro D hT
        obtain ⟨t1, t2, t3, t4⟩ := hT
        obtain ⟨i1, i2⟩ := ih t4
        refine ⟨List.nodup_cons.2 ⟨fun hi => i2 i hi (.inr rfl), i1⟩, fun j hj => ?_⟩
        rcases List.mem_cons.1 hj with rfl | hj
        · exact t1
        · exact fun hD => i2 j hj (.inl hD)
    refine seq_sim hC hio hseq (hnd hTB).1 ht R.drew (fun i _ => hfr' i) (fun μ' a' w' k1 k2 k3 k4 k5 => ?_)
    exact HQ μ' a' w' k1 (MDom_K k2) k3 k4 k5
  · rename_i hdr
    cases hr
    have hdr : draw = false := by simpa using hdr
    subst hdr
    obtain ⟨x, hx, hx2⟩ := reg_inv.1 he
    cases hx2
    rw [aplan_seq] at hx
    refine wp_region ?_
    have hsz : io.length = ops.size := by rw [hlen]; simp
    rw [hsz] at hx
    refine seq_sim hC hio hx List.nodup_range ht R (fun i _ => hfr' i) (fun μ' a' w' k1 k2 k3 k4 k5 => ?_)
    exact HQ μ' a' w' k1 (MDom_K k2) k3 k4 k5
/-- What a code is owed. -/
def Owed (w0 : World) (π : Id) (k : Nat) (μ : Mp) (a : Act) (r : Ex × Nat × List AV × AH) (Q : Exit → Act → World → Prop) : Prop :=
  ∀ μ' a' w', Ext μ μ' → MDomK π k r.2.1 μ μ' → TR μ' r.2.2.1 a'.tmps → Rel w0 μ' r.2.2.2 w' → a'.defers = a.defers → Q (conv r.1) a' w'
theorem masked_inv {n k : Nat} {tm : List AV} {h : AH} {m : Option (List Nat)} {c : ICode} {r : Ex × Nat × List AV × AH} (he : aexec C π n (masked m c) k tm h = some r) :
    ∃ n' r', n' ≤ n ∧ aexec C π n' c k tm h = some r' ∧ (r'.1 = .norm → r.1 = .norm ∧ r.2.1 = r'.2.1 ∧ r.2.2.2 = r'.2.2.2 ∧ (r.2.2.1 = r'.2.2.1 ∨ ∃ l, r.2.2.1 = keep l 0 r'.2.2.1)) ∧ (r'.1 ≠ .norm → r = r') := by
  cases m with
  | none => exact ⟨n, r, Nat.le_refl _, he, fun h => ⟨h, rfl, rfl, .inl rfl⟩, fun _ => rfl⟩
  | some l =>
    cases n with
    | zero => simp [masked, aexec] at he
    | succ n =>
      rcases seq_inv.1 he with ⟨k1, tm1, h1, e1, e2⟩ | ⟨e1, hne⟩
      · refine ⟨n, _, Nat.le_succ n, e1, fun _ => ?_, fun hne => absurd rfl hne⟩
        cases n with
        | zero => simp [aexec] at e2
        | succ n =>
          simp only [aexec] at e2
          cases e2
          exact ⟨rfl, rfl, rfl, .inr ⟨l, rfl⟩⟩
      · exact ⟨n, r, Nat.le_succ n, e1, fun h => absurd h hne, fun _ => rfl⟩
theorem Owed.masked {k : Nat} {μ : Mp} {a : Act} {r r' : Ex × Nat × List AV × AH} (h : Owed w0 π k μ a r Q) (h1 : r'.1 = .norm → r.1 = .norm ∧ r.2.1 = r'.2.1 ∧ r.2.2.2 = r'.2.2.2 ∧ (r.2.2.1 = r'.2.2.1 ∨ ∃ l, r.2.2.1 = keep l 0 r'.2.2.1)) (h2 : r'.1 ≠ .norm → r = r') : Owed w0 π k μ a r' Q := by
  by_cases hn : r'.1 = .norm
  · obtain ⟨e1, e2, e3, e4⟩ := h1 hn
    intro μ' a' w' k1 k2 k3 k4 k5
    rw [hn, ← e1]
    refine h μ' a' w' k1 (by rw [e2]; exact k2) ?_ (by rw [e3]; exact k4) k5
    rcases e4 with e4 | ⟨l, e4⟩
    · rw [e4]; exact k3
    · rw [e4]; exact k3.keep l
  · rw [← h2 hn]; exact h
theorem code_sim (hm : P.follows .mixedOrders = true) (hC : CSim P w0 C) (hd : CDom C) (hfr : CFrame C) : ∀ (n : Nat) {c : Code} {ps ps' : List Phases} {ms ms' : List (Option (List Nat))} {ic : ICode} {k : Nat} {tm : List AV} {h : AH} {r : Ex × Nat × List AV × AH} {Q : Exit → Act → World → Prop} {μ : Mp} {a : Act} {w : World},
    rsv P c ps ms = some (ic, ps', ms') → aexec C π n ic k tm h = some r → TR μ tm a.tmps → Rel w0 μ h w → KFree π k μ → Owed w0 π k μ a r Q → c.wp P Q a w := by
  intro n
  induction n using Nat.strongRecOn with
  | _ n ih =>
  intro c ps ps' ms ms' ic k tm h r Q μ a w hr he ht R hf HQ
  cases c with
  | region id ops draw => obtain ⟨e, k', tm', h'⟩ := r; exact region_sim hm hC hd hfr hr he ht R hf HQ
  | skip =>
    cases hr
    cases n with
    | zero => simp [aexec] at he
    | succ n => simp only [aexec] at he; cases he; exact wp_skip (HQ μ a w (Ext.refl _) (MDomK.refl _ _ _ _) ht R rfl)
  | exit i =>
    cases hr
    cases n with
    | zero => simp [aexec] at he
    | succ n => simp only [aexec] at he; cases he; exact wp_exit (HQ μ a w (Ext.refl _) (MDomK.refl _ _ _ _) ht R rfl)
  | ret =>
    cases hr
    cases n with
    | zero => simp [aexec] at he
    | succ n => simp only [aexec] at he; cases he; exact wp_ret (HQ μ a w (Ext.refl _) (MDomK.refl _ _ _ _) ht R rfl)
  | seq x y =>
    simp only [rsv] at hr
    split at hr
    · cases hr
    rename_i a' ps1 ms1 h1
    split at hr
    · cases hr
    rename_i b' ps2 ms2 h2
    cases hr
    cases n with
    | zero => simp [aexec] at he
    | succ n =>
    rcases seq_inv.1 he with ⟨k1, tm1, hh1, e1, e2⟩ | ⟨e1, hne⟩
    · refine wp_seq (ih n (Nat.lt_succ_self n) h1 e1 ht R hf ?_)
      intro μ' a1 w1 q1 q2 q3 q4 q5
      have d1 := (aexec_dom hd (e := .norm) (k' := k1) (tm' := tm1) (h' := hh1) e1).1
      obtain ⟨e', k', tm', h'⟩ := r
      have d2 := (aexec_dom hd e2).1
      refine ih n (Nat.lt_succ_self n) h2 e2 q3 q4 (hf.step d1 q2) ?_
      intro μ2 a2 w2 p1 p2 p3 p4 p5
      exact HQ μ2 a2 w2 (q1.trans p1) (q2.trans d1 d2 p2) p3 p4 (p5.trans q5)
    · refine wp_seq (ih n (Nat.lt_succ_self n) h1 e1 ht R hf ?_)
      intro μ' a1 w1 q1 q2 q3 q4 q5
      have := HQ μ' a1 w1 q1 q2 q3 q4 q5
      obtain ⟨e', k', tm', h'⟩ := r
      cases e' with
      | norm => exact absurd rfl hne
      | exit i => exact this
      | ret => exact this
  | cond x y z =>
    simp only [rsv] at hr
    split at hr
    case h_2 => cases hr
    rename_i x' y' ps1 ms1 hx h1
    split at hr
    case h_2 => cases hr
    rename_i z' ps2 m ms2 h2
    cases hr
    obtain ⟨n', r', hn', e1, g1, g2⟩ := masked_inv he
    have HQ' := HQ.masked g1 g2
    cases n' with
    | zero => simp [aexec] at e1
    | succ n' =>
    have hev := ropd_sim ht hx
    rcases cond_inv.1 e1 with ⟨c1, e2⟩ | ⟨c1, e2⟩ <;> rw [c1] at hev <;> simp only [VR] at hev
    · exact wp_cond_true hev (ih n' (by omega) h1 e2 ht R hf HQ')
    · exact wp_cond_false hev (ih n' (by omega) h2 e2 ht R hf HQ')
  | block i y =>
    simp only [rsv] at hr
    split at hr
    case h_2 => cases hr
    rename_i y' ps1 m ms1 h1
    cases hr
    obtain ⟨n', r', hn', e1, g1, g2⟩ := masked_inv he
    have HQ' := HQ.masked g1 g2
    cases n' with
    | zero => simp [aexec] at e1
    | succ n' =>
    refine wp_block ?_
    rcases block_inv.1 e1 with ⟨j, k1, tm1, hh1, e2, rfl⟩ | ⟨e2, hne⟩
    · refine ih n' (by omega) h1 e2 ht R hf ?_
      intro μ' a1 w1 q1 q2 q3 q4 q5
      have := HQ' μ' a1 w1 q1 q2 q3 q4 q5
      simp only [conv, Exit.inBlock]
      by_cases hj : j = i
      · rw [if_pos hj]; simp only [if_pos hj, conv] at this; exact this
      · rw [if_neg hj]; simp only [if_neg hj, conv] at this; exact this
    · refine ih n' (by omega) h1 e2 ht R hf ?_
      intro μ' a1 w1 q1 q2 q3 q4 q5
      have := HQ' μ' a1 w1 q1 q2 q3 q4 q5
      obtain ⟨e', k', tm', h'⟩ := r'
      cases e' with
      | exit j => exact absurd rfl (hne j)
      | norm => exact this
      | ret => exact this
  | loop y =>
    cases ms with
    | nil => simp [rsv] at hr
    | cons m ms =>
    simp only [rsv] at hr
    split at hr
    case h_2 => cases hr
    rename_i y' ps1 ms1 h1
    cases hr
    -- the rounds
    refine wp_loop_ghost (fun n1 a1 w1 => n1 ≤ n ∧ ∃ μ1 k1 tm1 hh1, aexec C π n1 (.loop (lmasked m y')) k1 tm1 hh1 = some r ∧ TR μ1 tm1 a1.tmps ∧ Rel w0 μ1 hh1 w1 ∧ Ext μ μ1 ∧ k ≤ k1 ∧ MDomK π k k1 μ μ1 ∧ a1.defers = a.defers) n
      ⟨Nat.le_refl _, μ, k, tm, h, he, ht, R, Ext.refl _, Nat.le_refl _, MDomK.refl _ _ _ _, rfl⟩ ?_
    rintro n1 a1 w1 ⟨hn1, μ1, k1, tm1, hh1, e1, t1, R1, x1, kk, d1, f1⟩
    cases n1 with
    | zero => simp [aexec] at e1
    | succ n1 =>
    have body : ∀ {r1 : Ex × Nat × List AV × AH} {Q1 : Exit → Act → World → Prop}, aexec C π n1 (lmasked m y') k1 tm1 hh1 = some r1 → Owed w0 π k1 μ1 a1 r1 Q1 → y.wp P Q1 a1 w1 := by
      intro r1 Q1 eb hQ1
      cases m with
      | none => exact ih n1 (by omega) h1 eb t1 R1 (hf.step kk d1) hQ1
      | some l =>
        cases n1 with
        | zero => simp [aexec] at eb
        | succ n2 =>
        rcases seq_inv.1 eb with ⟨k2, tm2, hh2, e3, e4⟩ | ⟨e3, hne⟩
        · cases n2 with
          | zero => simp [aexec] at e3
          | succ n3 =>
            simp only [aexec] at e3
            cases e3
            exact ih (n3 + 1) (by omega) h1 e4 (t1.keep l) R1 (hf.step kk d1) hQ1
        · cases n2 with
          | zero => simp [aexec] at e3
          | succ n3 => simp only [aexec] at e3; cases e3; exact absurd rfl hne
    rcases loop_inv.1 e1 with ⟨k2, tm2, hh2, e2, e3⟩ | ⟨e2, hne⟩
    · refine body e2 ?_
      intro μ' a2 w2 q1 q2 q3 q4 q5
      have d2 := (aexec_dom hd (e := .norm) (k' := k2) (tm' := tm2) (h' := hh2) e2).1
      exact ⟨n1, Nat.lt_succ_self _, by omega, μ', k2, tm2, hh2, e3, q3, q4, x1.trans q1, by omega, d1.trans kk d2 q2, q5.trans f1⟩
    · refine body e2 ?_
      intro μ' a2 w2 q1 q2 q3 q4 q5
      obtain ⟨e', k', tm', h'⟩ := r
      have d2 := (aexec_dom hd e2).1
      have := HQ μ' a2 w2 (x1.trans q1) (d1.trans kk d2 q2) q3 q4 (q5.trans f1)
      cases e' with
      | norm => exact absurd rfl hne
      | exit i => exact this
      | ret => exact this
  | rangeFunc => simp [rsv] at hr
  | scope => simp [rsv] at hr
  | label => simp [rsv] at hr
  | goto => simp [rsv] at hr
  | refuse => simp [rsv] at hr
end
end Go.Proofs.YtgekngfnhhdamaaM
