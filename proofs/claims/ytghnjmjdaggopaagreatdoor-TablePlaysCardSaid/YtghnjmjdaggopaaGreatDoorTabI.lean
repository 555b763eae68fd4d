/- TablePlays: what the law asks behind each step. -/
import Derived.Test.YtghnjmjdaggopaaGreatDoorTabG
import Derived.Test.YtghnjmjdaggopaaGreatDoorTabV
set_option linter.unusedSimpArgs false
set_option linter.unusedVariables false
namespace Go.Proofs.YtghnjmjdaggopaaGreatDoor
open Go.RowKit Go.Port
attribute [local irreducible] Calls
theorem pa_Adopt {max tnow : Int} {tb r ck : Nat} {C : Tb} {A : List Fl} (fz : Fl) (now : Int) {w : World} {D : List Nat} (hTR : TRel max C ck A) (hmx : max ≤ 100) (hD : D = (tbC max tnow tb r ck C).map (·.1)) (hM0 : Mem w w D [tbC max tnow tb r ck C]) {x1 x2 : Int} (hX : adoX max tnow now A fz = (x1, x2)) :
    Calls Tryz.prog 13 #[.pointer (some ⟨tb, 0, none⟩), .agg fz.row.toArray, .int .i64 now] w (Ret w D (fun v L => (x1 = 2 ∧ v = .tuple #[.bool false, er x2] ∧ L = [tbC max tnow tb r ck C]) ∨ (x1 = 1 ∧ v = .tuple #[.bool false, .nilIface] ∧ ∃ (ck' : Nat) (C' : Tb), L = [tbC max now tb r ck' C'] ∧ TRel max C' ck' (stayL now A)) ∨ (x1 = 0 ∧ v = .tuple #[.bool true, .nilIface] ∧ ∃ (ck' : Nat) (C' : Tb), L = [tbC max now tb r ck' C'] ∧ TRel max C' ck' (putL fz (stayL now A))))) :=
  (table_Adopt fz now hTR hmx hD hM0).mono fun e w' h => by
    obtain ⟨v, L, rfl, hm, h⟩ := h
    refine ⟨v, L, rfl, hm, ?_⟩
    rw [hX] at h
    rcases h with ⟨h1, h2⟩ | ⟨h1, h2⟩ | ⟨h1, h2⟩
    · exact .inl ⟨h1, h2⟩
    · exact .inr (.inl ⟨(Prod.mk.inj h1).1, h2⟩)
    · exact .inr (.inr ⟨(Prod.mk.inj h1).1, h2⟩)
theorem ra_Adopt {max tn : Int} {lb m cap : Nat} {AL : Option Addr} {l : List Fl} (fz : Fl) (now : Int) {w : World} {D : List Nat} (hD : D = [lb]) (hM0 : Mem w w D [[(lb, .cells [.int .i64 max, .int .i64 tn, .slice AL m cap].toArray 33 (0, 0))]]) (hr : RowIn w lb AL m l) (hm0 : m = l.length) (hmb : m ≤ 100) {x1 x2 : Int} (hX : adoX max tn now l fz = (x1, x2)) :
    Calls Tryz.prog 12 #[.pointer (some ⟨lb, 0, none⟩), .agg fz.row.toArray, .int .i64 now] w (Ret w D (fun v L => (x1 = 2 ∧ v = .tuple #[.bool false, .int .i64 x2] ∧ L = [[(lb, .cells [.int .i64 max, .int .i64 tn, .slice AL m cap].toArray 33 (0, 0))]]) ∨ (x1 = 1 ∧ v = .tuple #[.bool false, .int .i64 0] ∧ ∃ (A' : Option Addr) (cap' : Nat) (c' : Ch), L = [[(lb, .cells [.int .i64 max, .int .i64 now, .slice A' (stayL now l).length cap'].toArray 33 (0, 0))], c'] ∧ OwnS 45 15 (.slice A' (stayL now l).length cap') (stayL now l).length (rowsG Fl.row (stayL now l)) c') ∨ (x1 = 0 ∧ v = .tuple #[.bool true, .int .i64 0] ∧ ∃ (A' : Option Addr) (cap' : Nat) (c' : Ch), L = [[(lb, .cells [.int .i64 max, .int .i64 now, .slice A' (putL fz (stayL now l)).length cap'].toArray 33 (0, 0))], c'] ∧ OwnS 45 15 (.slice A' (putL fz (stayL now l)).length cap') (putL fz (stayL now l)).length (rowsG Fl.row (putL fz (stayL now l))) c'))) :=
  (ref_LAdopt fz now hD hM0 hr hm0 hmb).mono fun e w' h => by
    obtain ⟨v, L, rfl, hm, h⟩ := h
    refine ⟨v, L, rfl, hm, ?_⟩
    rw [hX] at h
    rcases h with ⟨h1, h2⟩ | ⟨h1, h2⟩ | ⟨h1, h2⟩
    · exact .inl ⟨h1, h2⟩
    · exact .inr (.inl ⟨(Prod.mk.inj h1).1, h2⟩)
    · exact .inr (.inr ⟨(Prod.mk.inj h1).1, h2⟩)
theorem adoX_in {max tnow now : Int} {A : List Fl} {f : Fl} {x1 x2 : Int} (h : adoX max tnow now A f = (x1, x2)) : x1 = 2 ∨ x1 = 1 ∨ x1 = 0 := by
  unfold adoX at h
  repeat' (split at h)
  all_goals (obtain ⟨rfl, _⟩ := Prod.mk.inj h; simp)
theorem isSl_nil (w : World) (sz : Nat) : IsSl w sz none 0 0 [] := ⟨by simp, .inl rfl⟩
end Go.Proofs.YtghnjmjdaggopaaGreatDoor
