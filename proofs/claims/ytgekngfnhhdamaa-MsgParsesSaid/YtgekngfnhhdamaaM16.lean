/- What an operation of the machine looks at, and what it may turn; no conditions. -/
import Derived.Test.YtgekngfnhhdamaaM15
set_option linter.unusedVariables false
set_option linter.unusedSimpArgs false
namespace Go.Proofs.YtgekngfnhhdamaaM
open Go

def oT : Opd → List Nat
  | .t i => [i]
  | .c _ => []
def osT : List Opd → List Nat
  | [] => []
  | x :: l => oT x ++ osT l
def ooT : Option Opd → List Nat
  | none => []
  | some x => oT x
/-- The slots that an operation looks at. -/
def opT : IOp → List Nat
  | .mov x | .box _ x | .load _ x | .nilck x | .un _ x | .conv _ x | .s2b x | .b2s x | .mkI _ x | .fld _ x | .fget _ _ x | .ext x _ | .lenS x | .lenL x | .capL x | .sstr x | .clr _ _ x => oT x
  | .pick c a b => oT c ++ (oT a ++ oT b)
  | .alloc _ | .bad => []
  | .build _ ps => osT (ps.map (·.2.2))
  | .buildS _ _ _ ps => osT (ps.map (·.2))
  | .store _ a v | .bin _ a v | .eqn _ _ a v | .eqs _ _ a v | .mkS _ _ _ a v | .ixS _ a v | .ixA _ _ a v | .ixG _ _ _ a v | .ixStr a v | .app _ _ a v | .cpy _ a v | .appZ _ _ _ a v | .ovl _ a v => oT a ++ oT v
  | .mkF _ a b => osT a ++ osT b
  | .slcS3 _ x l a b => oT x ++ (oT b ++ (ooT l ++ ooT (some a)))
  | .slcStr x l h | .slcS _ x l h | .slcA _ _ x l h => oT x ++ (ooT l ++ ooT h)
  | .maxi l | .mini l | .callF _ l => osT l
  | .callV f l => oT f ++ osT l
/-- The same in these slots. -/
def Agree (l : List Nat) (tm tm' : List AV) : Prop := ∀ t ∈ l, tm.getD t .und = tm'.getD t .und
theorem Agree.left {l m : List Nat} {tm tm' : List AV} (h : Agree (l ++ m) tm tm') : Agree l tm tm' := fun t ht => h t (List.mem_append_left _ ht)
theorem Agree.right {l m : List Nat} {tm tm' : List AV} (h : Agree (l ++ m) tm tm') : Agree m tm tm' := fun t ht => h t (List.mem_append_right _ ht)
theorem ev_agree {x : Opd} {tm tm' : List AV} (h : Agree (oT x) tm tm') : ev tm x = ev tm' x := by
  cases x with
  | t i => exact h i (by simp [oT])
  | c v => rfl
theorem evs_agree : ∀ {l : List Opd} {tm tm' : List AV}, Agree (osT l) tm tm' → l.map (ev tm) = l.map (ev tm')
  | [], _, _, _ => rfl
  | x :: l, tm, tm', h => by simp only [List.map_cons, ev_agree h.left, evs_agree h.right]
theorem abnd_agree {x : Option Opd} {d : Int} {tm tm' : List AV} (h : Agree (ooT x) tm tm') : abnd tm d x = abnd tm' d x := by
  cases x with
  | none => rfl
  | some y => simp only [abnd, ev_agree h]
theorem abounds_agree {n : Nat} {lo hi : Option Opd} {tm tm' : List AV} (h : Agree (ooT lo ++ ooT hi) tm tm') : abounds tm n lo hi = abounds tm' n lo hi := by
  unfold abounds
  rw [abnd_agree h.left, abnd_agree h.right]
theorem aboundsK_agree {n c : Nat} {lo hi : Option Opd} {tm tm' : List AV} (h : Agree (ooT lo ++ ooT hi) tm tm') : aboundsK tm n c lo hi = aboundsK tm' n c lo hi := by
  unfold aboundsK
  rw [abnd_agree h.left, abnd_agree h.right]
theorem parts_agree {ps : List (Nat × Nat × Opd)} {tm tm' : List AV} (h : Agree (osT (ps.map (·.2.2))) tm tm') : (ps.map fun p => (p.1, p.2.1, ev tm p.2.2)) = ps.map fun p => (p.1, p.2.1, ev tm' p.2.2) := by
  induction ps with
  | nil => rfl
  | cons p ps ih => simp only [List.map_cons, osT] at h ⊢; rw [ev_agree h.left, ih h.right]
theorem partsS_agree {sz : Nat} {ps : List (Nat × Opd)} {tm tm' : List AV} (h : Agree (osT (ps.map (·.2))) tm tm') : (ps.map fun p => (p.1 * sz, sz, ev tm p.2)) = ps.map fun p => (p.1 * sz, sz, ev tm' p.2) := by
  induction ps with
  | nil => rfl
  | cons p ps ih => simp only [List.map_cons, osT] at h ⊢; rw [ev_agree h.left, ih h.right]
theorem aop_agree {C : CF} {id : Id} {op : IOp} {tm tm' : List AV} {h : AH} (hag : Agree (opT op) tm tm') : aop C id op tm h = aop C id op tm' h := by
  cases op <;> simp only [opT] at hag <;> simp only [aop]
  case build => rw [parts_agree hag]
  case buildS => rw [partsS_agree hag]
  case pick => rw [ev_agree hag.left, ev_agree hag.right.left, ev_agree hag.right.right]
  case mkF => rw [evs_agree hag.left, evs_agree hag.right]
  case maxi => rw [evs_agree hag]
  case mini => rw [evs_agree hag]
  case callF => rw [evs_agree hag]
  case callV => rw [ev_agree hag.left, evs_agree hag.right]
  case slcStr => rw [ev_agree hag.left]; simp only [abounds_agree hag.right]
  case slcS => rw [ev_agree hag.left]; simp only [abounds_agree hag.right, aboundsK_agree hag.right]
  case slcS3 => rw [ev_agree hag.left, ev_agree hag.right.left]; simp only [abounds_agree hag.right.right]
  case slcA => rw [ev_agree hag.left]; simp only [abounds_agree hag.right]
  all_goals first
    | rfl
    | (rw [ev_agree hag]; done)
    | (rw [ev_agree hag.left, ev_agree hag.right]; done)
def gT : Option (Nat × Bool) → List Nat
  | none => []
  | some (t, _) => [t]
theorem awanted_agree {g : Option (Nat × Bool)} {tm tm' : List AV} (h : Agree (gT g) tm tm') : awanted tm g = awanted tm' g := by
  cases g with
  | none => rfl
  | some x => simp only [awanted, h x.1 (by simp [gT])]

/-- 0: it only computes; 1: it looks at the heap; 2: it makes a block; 3: all else. -/
def cls : IOp → Nat
  | .load _ _ | .ovl _ _ _ | .b2s _ | .slcA _ _ _ _ _ => 1
  | .alloc _ | .box _ _ | .buildS _ _ _ _ | .s2b _ | .mkS _ _ _ _ _ => 2
  | .store _ _ _ | .appZ _ _ _ _ _ | .app _ _ _ _ | .cpy _ _ _ | .clr _ _ _ | .callF _ _ | .callV _ _ => 3
  | _ => 0
theorem cls0 {C : CF} {id : Id} {op : IOp} {tm : List AV} {h : AH} {r : AV × AH} (hc : cls op = 0) (e : aop C id op tm h = some r) : r.2 = h ∧ ∀ h2, aop C id op tm h2 = some (r.1, h2) := by
  cases op <;> first | (exfalso; revert hc; simp [cls]; done) | skip
  all_goals (simp only [aop] at e ⊢)
  all_goals (repeat' (split at e))
  all_goals first
    | (cases e; done)
    | (cases e; exact ⟨rfl, fun _ => rfl⟩)
    | (obtain ⟨x, hx, rfl⟩ := Option.map_eq_some_iff.1 e; refine ⟨rfl, fun h2 => ?_⟩; simp_all; done)
    | (cases e; refine ⟨rfl, fun h2 => ?_⟩; simp_all; done)
theorem cls1 {C : CF} {id : Id} {op : IOp} {tm : List AV} {h : AH} {r : AV × AH} (hc : cls op = 1) (e : aop C id op tm h = some r) : r.2 = h := by
  cases op <;> first | (exfalso; revert hc; simp [cls]; done) | skip
  all_goals (simp only [aop] at e)
  all_goals (repeat' (split at e))
  all_goals first
    | (cases e; done)
    | (cases e; rfl)
    | (obtain ⟨x, hx, rfl⟩ := Option.map_eq_some_iff.1 e; rfl)
theorem cls2 {C : CF} {id : Id} {op : IOp} {tm : List AV} {h : AH} {r : AV × AH} (hc : cls op = 2) (e : aop C id op tm h = some r) : ∃ b, r.2 = h.set id (some b) ∧ ∀ h2, aop C id op tm h2 = some (r.1, h2.set id (some b)) := by
  cases op <;> first | (exfalso; revert hc; simp [cls]; done) | skip
  all_goals (simp only [aop] at e ⊢)
  all_goals (repeat' (split at e))
  all_goals first
    | (cases e; done)
    | (cases e; refine ⟨_, rfl, fun h2 => ?_⟩; first | rfl | (simp_all; done))
end Go.Proofs.YtgekngfnhhdamaaM
