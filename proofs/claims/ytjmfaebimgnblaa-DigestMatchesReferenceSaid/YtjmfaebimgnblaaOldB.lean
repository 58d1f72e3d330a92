/-
  The examples of the digest laws, as a contract on pure data.
-/
import Derived.Test.YtjmfaebimgnblaaOld
import Derived.Test.YtjmfaebimgnblaaEx01
namespace Go.Proofs.Ytjmfaebimgnblaa
open Go.RowKit

theorem examples01_ok : CallOk Try.prog 15 [] [] false (dB true) [] := by
  intro S μ w us hS hH hus
  have h0 : us = #[] := Array.eq_empty_of_size_eq_zero hus.1
  subst h0
  refine (examples01_calls w).mono ?_
  rintro e w' ⟨rfl, hb⟩
  exact ⟨_, μ, S, rfl, hb.os, hb.tape, hb.output, hb.size, fun k hk _ => hb.block k hk, fun _ h => h, fun _ h => .inl h, fun b hb' => Nat.lt_of_lt_of_le (hS b hb') hb.size, .v _ _ (.bool _), ⟨fun id B hB => by simp at hB, fun i j A B b hA => by simp at hA, fun i A b hA => by simp at hA⟩, fun i A b hA => by simp at hA, fun i A hA => by simp at hA⟩

end Go.Proofs.Ytjmfaebimgnblaa
