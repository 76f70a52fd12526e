import Derived.Test.YtfojoloiahhphaaGreatDoorSimI5
import Derived.Test.YtfojoloiahhphaaGreatDoorSimI3c
/- Sim, part 45: calls whose outcome is known: as a table of contracts. -/
namespace Sim
open Go

noncomputable def Snap.isF (S : Snap) (P : Program) (f : Nat) (call : CallF) : Bool := Option.rec (motive := fun _ => Bool) false (fun F => S.is (F call S.args S.st)) (funXK P f)
noncomputable def saysG (v : CV) : FunX := fun _ args st => match args with | [] => .ok v st | _ => .bad
noncomputable def saysF (v : CV) (P : Program) (f : Nat) (call : CallF) : Bool := Option.rec (motive := fun _ => Bool) false (fun F => match F call [] ⟨.nil, .e⟩ with | .ok u _ => Bool.and (flatT v) (cvEq v u) | .bad => false) (funXK P f)

section
variable {P : Program} {f : Nat}
theorem funXK_plain {F : FunX} {call : CallF} (hm : P.follows .mixedOrders = true) (hF : funXK P f = some F) (hc : CallSound P call) {args : List CV} {st : St} {v : CV} {st' : St} (h : F call args st = .ok v st') : callable P f = true ∧ CallOK P f args st v st' := by
  rcases funXK_ok hF call args st with h1 | h1
  · rw [h1] at h; cases h
  · rw [h1] at h
    exact enterC_sound hc (runDraw2_sound hm) h
theorem snapG_sound {S : Snap} {call0 call : CallF} {g : FunX} (hm : P.follows .mixedOrders = true) (h0 : CallSound P call0) (hs : S.isF P f call0 = true)
    (hg : ∀ args st v st', g call args st = .ok v st' → CallOut P f args st v st') (args : List CV) (st : St) (v : CV) (st' : St) (h : snapG S g call args st = .ok v st') : CallOut P f args st v st' := by
  unfold snapG at h
  rw [bsel_eq] at h
  split at h
  · rename_i hfit
    cases h
    unfold Snap.isF at hs
    cases hF : funXK P f with
    | none => rw [hF] at hs; cases hs
    | some F => rw [hF] at hs; exact snap_out hm hF h0 hs hfit
  · exact hg _ _ _ _ h
theorem snapI_sound {S : Snap} {call0 call : CallF} {o : Option FunX} (hm : P.follows .mixedOrders = true) (h0 : CallSound P call0) (hs : S.isF P f call0 = true)
    (ho : ∀ g, o = some g → ∀ args st v st', g call args st = .ok v st' → CallOut P f args st v st') : ∀ g, snapI S o = some g → ∀ args st v st', g call args st = .ok v st' → CallOut P f args st v st' := by
  intro g hg
  cases o with
  | none => cases hg
  | some g0 => cases hg; exact snapG_sound hm h0 hs (ho g0 rfl)
theorem funXK_out {call : CallF} (hm : P.follows .mixedOrders = true) (hc : CallSound P call) : ∀ g, funXK P f = some g → ∀ args st v st', g call args st = .ok v st' → CallOut P f args st v st' :=
  fun _ hg _ _ _ _ h => .inl (funXK_plain hm hg hc h)
/-- A call without arguments, whose answer is known. -/
theorem saysG_sound {v0 : CV} {call0 call : CallF} (hm : P.follows .mixedOrders = true) (h0 : CallSound P call0) (hs : saysF v0 P f call0 = true) (args : List CV) (st : St) (v : CV) (st' : St) (h : saysG v0 call args st = .ok v st') : CallOut P f args st v st' := by
  unfold saysG at h
  split at h
  · cases h
    unfold saysF at hs
    cases hF : funXK P f with
    | none => rw [hF] at hs; cases hs
    | some F =>
      rw [hF] at hs
      dsimp only at hs
      split at hs
      · rename_i u s1 hr
        rw [Bool.and_eq_true] at hs
        have hu := cvEq_sound _ _ hs.2
        subst hu
        obtain ⟨h1, h2⟩ := funXK_plain hm hF h0 hr
        exact .inl ⟨h1, h2.flat rfl hs.1 st⟩
      · cases hs
  · cases h
/-- The whole program: what it answers, from whatever world. -/
theorem says_calls {v0 : CV} {call0 : CallF} (hm : P.follows .mixedOrders = true) (h0 : CallSound P call0) (hs : saysF v0 P f call0 = true) (w : World) (hg : ∀ r v, (r, v) ∈ globs → w.cell? ⟨r, 0, none⟩ = some v) : Calls P f #[] w fun e w' => ∃ v', e = .returned v' ∧ VR noRen v0 v' ∧ w'.os = w.os ∧ w'.output = w.output ∧ w.heap.size ≤ w'.heap.size ∧ ∀ r, r < w.heap.size → w'.heap[r]? = w.heap[r]? := by
  unfold saysF at hs
  cases hF : funXK P f with
  | none => rw [hF] at hs; cases hs
  | some F =>
    rw [hF] at hs
    dsimp only at hs
    split at hs
    · rename_i u s1 hr
      rw [Bool.and_eq_true] at hs
      have hu := cvEq_sound _ _ hs.2
      subst hu
      obtain ⟨_, h2⟩ := funXK_plain hm hF h0 hr
      have hw0 : WR noRen ⟨.nil, .e⟩ w := ⟨fun b blk r sz _ h => (by cases h), fun b b' k k' r s s' _ _ h => (by cases h), fun b x h => (by cases h), fun r v hm => ⟨hg r v hm, fun b blk sz h => by cases h⟩⟩
      refine ((h2.flat rfl hs.1 ⟨.nil, .e⟩) noRen w #[] hw0 ⟨rfl, fun i v v' a => by simp at a⟩).mono ?_
      rintro e w' ⟨v', ρ', rfl, hv, hA⟩
      exact ⟨v', rfl, flatT_VR hs.1 hv, hA.os, hA.output, hA.size, fun r hr => hA.kept r hr fun b blk sz _ h => (by cases h)⟩
    · cases hs
end
end Sim
