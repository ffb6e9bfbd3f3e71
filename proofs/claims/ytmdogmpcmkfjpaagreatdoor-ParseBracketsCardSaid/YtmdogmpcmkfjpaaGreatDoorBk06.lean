import Derived.Test.YtmdogmpcmkfjpaaGreatDoorBk05
namespace Go.Proofs.YtmdogmpcmkfjpaaGreatDoor.Dt
open Go.Lib
set_option linter.unusedVariables false

section
variable {L : List Tk} {en : Int}
theorem Good.oneOf' {l : List (ByteArray × Nat)} (Q : Nat → Prop) (h : ∀ x ∈ l, Q x.2) : Good (Dt.oneOf L en l) (fun r => ∀ o, r = some o → Q o) := Good.oneOf Q l h
theorem Good.chainM {ops : List (ByteArray × Nat)} (ho : ∀ x ∈ ops, x.1 ≠ BSEMI ∧ x.1 ≠ BCLOSE) (hn : ∀ x ∈ ops, 6 ≤ x.2 ∧ x.2 ≤ 19) {one : Rd PE} (hs : Sim L en L en 0 one one) (hg : Good one ExOk) : ∀ f x, ExOk x → Good (chainM L en ops one f x) ExOk
  | 0, x, _ => Good.fail (fun s => by show (99 : Nat) ≠ 0; decide) _
  | f + 1, x, hx => Good.bnd (Good.oneOf' (fun o => 6 ≤ o ∧ o ≤ 19) hn) (fun o => by
      cases o with
      | none => exact Keep.ret _
      | some o => exact Keep.bnd hs.keep (fun y => (Sim.chainM ops ho hs f _).keep)) (fun o h => by
      cases o with
      | none => exact Good.ret hx
      | some o => exact Good.bnd hg (fun y => (Sim.chainM ops ho hs f _).keep) (fun y hy => Good.chainM ho hn hs hg f _ (.two o x y (h o rfl).1 (h o rfl).2 hx hy)))
theorem Good.chainL {ops : List (ByteArray × Nat)} (ho : ∀ x ∈ ops, x.1 ≠ BSEMI ∧ x.1 ≠ BCLOSE) (hn : ∀ x ∈ ops, 6 ≤ x.2 ∧ x.2 ≤ 19) {one : Rd PE} (hs : Sim L en L en 0 one one) (hg : Good one ExOk) (f : Nat) : Good (chainL L en ops one f) ExOk :=
  Good.bnd hg (fun x => (Sim.chainM ops ho hs f x).keep) (fun x hx => Good.chainM ho hn hs hg f x hx)
set_option maxHeartbeats 4000000 in
theorem Good.exF (h : AllOk L) : ∀ f m, Good (exF L en f m) ExOk
  | 0, _ => Good.fail (fun s => by show (99 : Nat) ≠ 0; decide) _
  | f + 1, .expr => Good.chainL (by decide) (by decide) (Sim.chainL _ (by decide) (Sim.exF f .not) f) (Good.chainL (by decide) (by decide) (Sim.exF f .not) (Good.exF h f .not) f) f
  | f + 1, .not => Good.bnd (Good.any _) (by intros; repeat (first | with_reducible refine Keep.bnd ?_ (fun _ => ?_) | with_reducible refine Keep.ite _ ?_ ?_ | with_reducible exact Keep.ret _ | with_reducible exact Sim.keep (Sim.mustM _) | with_reducible exact Sim.keep Sim.nameM | with_reducible exact Sim.keep Sim.nameQ | with_reducible exact Sim.keep Sim.litM | with_reducible exact Sim.keep Sim.negM | with_reducible exact Sim.keep Sim.okM | with_reducible exact Sim.keep (Sim.isM _ (by decide) (by decide)) | with_reducible exact Sim.keep (Sim.failM 6 (by decide)) | with_reducible exact Sim.keep (Sim.oneOf _ (by decide)) | with_reducible exact Sim.keep (Sim.exF _ _) | split)) (fun b _ => by
      cases b with
      | true => exact Good.bnd (Good.exF h f .not) (by intros; repeat (first | with_reducible refine Keep.bnd ?_ (fun _ => ?_) | with_reducible refine Keep.ite _ ?_ ?_ | with_reducible exact Keep.ret _ | with_reducible exact Sim.keep (Sim.mustM _) | with_reducible exact Sim.keep Sim.nameM | with_reducible exact Sim.keep Sim.nameQ | with_reducible exact Sim.keep Sim.litM | with_reducible exact Sim.keep Sim.negM | with_reducible exact Sim.keep Sim.okM | with_reducible exact Sim.keep (Sim.isM _ (by decide) (by decide)) | with_reducible exact Sim.keep (Sim.failM 6 (by decide)) | with_reducible exact Sim.keep (Sim.oneOf _ (by decide)) | with_reducible exact Sim.keep (Sim.exF _ _) | split)) (fun x hx => Good.ret (.one 4 x (by omega) hx))
      | false => exact Good.bnd (Good.exF h f (.sum 0)) (by intros; repeat (first | with_reducible refine Keep.bnd ?_ (fun _ => ?_) | with_reducible refine Keep.ite _ ?_ ?_ | with_reducible exact Keep.ret _ | with_reducible exact Sim.keep (Sim.mustM _) | with_reducible exact Sim.keep Sim.nameM | with_reducible exact Sim.keep Sim.nameQ | with_reducible exact Sim.keep Sim.litM | with_reducible exact Sim.keep Sim.negM | with_reducible exact Sim.keep Sim.okM | with_reducible exact Sim.keep (Sim.isM _ (by decide) (by decide)) | with_reducible exact Sim.keep (Sim.failM 6 (by decide)) | with_reducible exact Sim.keep (Sim.oneOf _ (by decide)) | with_reducible exact Sim.keep (Sim.exF _ _) | split)) (fun x hx => Good.bnd (Good.any _) (by intros; repeat (first | with_reducible refine Keep.bnd ?_ (fun _ => ?_) | with_reducible refine Keep.ite _ ?_ ?_ | with_reducible exact Keep.ret _ | with_reducible exact Sim.keep (Sim.mustM _) | with_reducible exact Sim.keep Sim.nameM | with_reducible exact Sim.keep Sim.nameQ | with_reducible exact Sim.keep Sim.litM | with_reducible exact Sim.keep Sim.negM | with_reducible exact Sim.keep Sim.okM | with_reducible exact Sim.keep (Sim.isM _ (by decide) (by decide)) | with_reducible exact Sim.keep (Sim.failM 6 (by decide)) | with_reducible exact Sim.keep (Sim.oneOf _ (by decide)) | with_reducible exact Sim.keep (Sim.exF _ _) | split)) (fun b _ => by
          cases b with
          | true => exact Good.bnd (Good.any _) (by intros; repeat (first | with_reducible refine Keep.bnd ?_ (fun _ => ?_) | with_reducible refine Keep.ite _ ?_ ?_ | with_reducible exact Keep.ret _ | with_reducible exact Sim.keep (Sim.mustM _) | with_reducible exact Sim.keep Sim.nameM | with_reducible exact Sim.keep Sim.nameQ | with_reducible exact Sim.keep Sim.litM | with_reducible exact Sim.keep Sim.negM | with_reducible exact Sim.keep Sim.okM | with_reducible exact Sim.keep (Sim.isM _ (by decide) (by decide)) | with_reducible exact Sim.keep (Sim.failM 6 (by decide)) | with_reducible exact Sim.keep (Sim.oneOf _ (by decide)) | with_reducible exact Sim.keep (Sim.exF _ _) | split)) (fun b _ => Good.bnd (Good.any _) (by intros; repeat (first | with_reducible refine Keep.bnd ?_ (fun _ => ?_) | with_reducible refine Keep.ite _ ?_ ?_ | with_reducible exact Keep.ret _ | with_reducible exact Sim.keep (Sim.mustM _) | with_reducible exact Sim.keep Sim.nameM | with_reducible exact Sim.keep Sim.nameQ | with_reducible exact Sim.keep Sim.litM | with_reducible exact Sim.keep Sim.negM | with_reducible exact Sim.keep Sim.okM | with_reducible exact Sim.keep (Sim.isM _ (by decide) (by decide)) | with_reducible exact Sim.keep (Sim.failM 6 (by decide)) | with_reducible exact Sim.keep (Sim.oneOf _ (by decide)) | with_reducible exact Sim.keep (Sim.exF _ _) | split)) (fun _ _ => Good.ret (by
              cases b with
              | true => exact .one 4 _ (by omega) (.one 5 x (by omega) hx)
              | false => exact .one 5 x (by omega) hx)))
          | false => exact Good.bnd (Good.oneOf' (fun o => 6 ≤ o ∧ o ≤ 19) (by decide)) (by intros; repeat (first | with_reducible refine Keep.bnd ?_ (fun _ => ?_) | with_reducible refine Keep.ite _ ?_ ?_ | with_reducible exact Keep.ret _ | with_reducible exact Sim.keep (Sim.mustM _) | with_reducible exact Sim.keep Sim.nameM | with_reducible exact Sim.keep Sim.nameQ | with_reducible exact Sim.keep Sim.litM | with_reducible exact Sim.keep Sim.negM | with_reducible exact Sim.keep Sim.okM | with_reducible exact Sim.keep (Sim.isM _ (by decide) (by decide)) | with_reducible exact Sim.keep (Sim.failM 6 (by decide)) | with_reducible exact Sim.keep (Sim.oneOf _ (by decide)) | with_reducible exact Sim.keep (Sim.exF _ _) | split)) (fun o ho => by
              cases o with
              | none => exact Good.ret hx
              | some o => exact Good.bnd (Good.exF h f (.sum 0)) (by intros; repeat (first | with_reducible refine Keep.bnd ?_ (fun _ => ?_) | with_reducible refine Keep.ite _ ?_ ?_ | with_reducible exact Keep.ret _ | with_reducible exact Sim.keep (Sim.mustM _) | with_reducible exact Sim.keep Sim.nameM | with_reducible exact Sim.keep Sim.nameQ | with_reducible exact Sim.keep Sim.litM | with_reducible exact Sim.keep Sim.negM | with_reducible exact Sim.keep Sim.okM | with_reducible exact Sim.keep (Sim.isM _ (by decide) (by decide)) | with_reducible exact Sim.keep (Sim.failM 6 (by decide)) | with_reducible exact Sim.keep (Sim.oneOf _ (by decide)) | with_reducible exact Sim.keep (Sim.exF _ _) | split)) (fun y hy => Good.ret (.two o x y (ho o rfl).1 (ho o rfl).2 hx hy))))))
  | f + 1, .sum k => by
    show Good (if k = 3 then Dt.exF L en f .unary else Dt.chainL L en (opsOf k) (Dt.exF L en f (.sum (k + 1))) f) ExOk
    split
    · exact Good.exF h f .unary
    · match k with
      | 0 => exact Good.chainL (by decide) (by decide) (Sim.exF f _) (Good.exF h f _) f
      | 1 => exact Good.chainL (by decide) (by decide) (Sim.exF f _) (Good.exF h f _) f
      | _ + 2 => exact Good.chainL (ops := [(BSTAR, 8), (BDIV, 9), (BMOD, 10)]) (by decide) (by decide) (Sim.exF f _) (Good.exF h f _) f
  | f + 1, .unary => Good.bnd (Good.any _) (by intros; repeat (first | with_reducible refine Keep.bnd ?_ (fun _ => ?_) | with_reducible refine Keep.ite _ ?_ ?_ | with_reducible exact Keep.ret _ | with_reducible exact Sim.keep (Sim.mustM _) | with_reducible exact Sim.keep Sim.nameM | with_reducible exact Sim.keep Sim.nameQ | with_reducible exact Sim.keep Sim.litM | with_reducible exact Sim.keep Sim.negM | with_reducible exact Sim.keep Sim.okM | with_reducible exact Sim.keep (Sim.isM _ (by decide) (by decide)) | with_reducible exact Sim.keep (Sim.failM 6 (by decide)) | with_reducible exact Sim.keep (Sim.oneOf _ (by decide)) | with_reducible exact Sim.keep (Sim.exF _ _) | split)) (fun b _ => by
      cases b with
      | true => exact Good.bnd (Good.negM h) (by intros; repeat (first | with_reducible refine Keep.bnd ?_ (fun _ => ?_) | with_reducible refine Keep.ite _ ?_ ?_ | with_reducible exact Keep.ret _ | with_reducible exact Sim.keep (Sim.mustM _) | with_reducible exact Sim.keep Sim.nameM | with_reducible exact Sim.keep Sim.nameQ | with_reducible exact Sim.keep Sim.litM | with_reducible exact Sim.keep Sim.negM | with_reducible exact Sim.keep Sim.okM | with_reducible exact Sim.keep (Sim.isM _ (by decide) (by decide)) | with_reducible exact Sim.keep (Sim.failM 6 (by decide)) | with_reducible exact Sim.keep (Sim.oneOf _ (by decide)) | with_reducible exact Sim.keep (Sim.exF _ _) | split)) (fun n hn => by
          cases n with
          | some n => exact Good.ret (.val _ (.inr (.inl ⟨rfl, by have := hn n rfl; show -9223372036854775808 ≤ -(n : Int); omega, by show -(n : Int) < 9223372036854775808; omega, rfl⟩)))
          | none => exact Good.bnd (Good.exF h f .unary) (by intros; repeat (first | with_reducible refine Keep.bnd ?_ (fun _ => ?_) | with_reducible refine Keep.ite _ ?_ ?_ | with_reducible exact Keep.ret _ | with_reducible exact Sim.keep (Sim.mustM _) | with_reducible exact Sim.keep Sim.nameM | with_reducible exact Sim.keep Sim.nameQ | with_reducible exact Sim.keep Sim.litM | with_reducible exact Sim.keep Sim.negM | with_reducible exact Sim.keep Sim.okM | with_reducible exact Sim.keep (Sim.isM _ (by decide) (by decide)) | with_reducible exact Sim.keep (Sim.failM 6 (by decide)) | with_reducible exact Sim.keep (Sim.oneOf _ (by decide)) | with_reducible exact Sim.keep (Sim.exF _ _) | split)) (fun x hx => Good.ret (.one 3 x (by omega) hx)))
      | false => exact Good.exF h f .prim)
  | f + 1, .prim => Good.bnd (Good.litM h) (by intros; repeat (first | with_reducible refine Keep.bnd ?_ (fun _ => ?_) | with_reducible refine Keep.ite _ ?_ ?_ | with_reducible exact Keep.ret _ | with_reducible exact Sim.keep (Sim.mustM _) | with_reducible exact Sim.keep Sim.nameM | with_reducible exact Sim.keep Sim.nameQ | with_reducible exact Sim.keep Sim.litM | with_reducible exact Sim.keep Sim.negM | with_reducible exact Sim.keep Sim.okM | with_reducible exact Sim.keep (Sim.isM _ (by decide) (by decide)) | with_reducible exact Sim.keep (Sim.failM 6 (by decide)) | with_reducible exact Sim.keep (Sim.oneOf _ (by decide)) | with_reducible exact Sim.keep (Sim.exF _ _) | split)) (fun r hr => by
      cases r with
      | some x => exact Good.ret (hr x rfl)
      | none => exact Good.bnd (Good.nameQ h) (by intros; repeat (first | with_reducible refine Keep.bnd ?_ (fun _ => ?_) | with_reducible refine Keep.ite _ ?_ ?_ | with_reducible exact Keep.ret _ | with_reducible exact Sim.keep (Sim.mustM _) | with_reducible exact Sim.keep Sim.nameM | with_reducible exact Sim.keep Sim.nameQ | with_reducible exact Sim.keep Sim.litM | with_reducible exact Sim.keep Sim.negM | with_reducible exact Sim.keep Sim.okM | with_reducible exact Sim.keep (Sim.isM _ (by decide) (by decide)) | with_reducible exact Sim.keep (Sim.failM 6 (by decide)) | with_reducible exact Sim.keep (Sim.oneOf _ (by decide)) | with_reducible exact Sim.keep (Sim.exF _ _) | split)) (fun r hr => by
          cases r with
          | some t => exact Good.bnd (Good.any _) (by intros; repeat (first | with_reducible refine Keep.bnd ?_ (fun _ => ?_) | with_reducible refine Keep.ite _ ?_ ?_ | with_reducible exact Keep.ret _ | with_reducible exact Sim.keep (Sim.mustM _) | with_reducible exact Sim.keep Sim.nameM | with_reducible exact Sim.keep Sim.nameQ | with_reducible exact Sim.keep Sim.litM | with_reducible exact Sim.keep Sim.negM | with_reducible exact Sim.keep Sim.okM | with_reducible exact Sim.keep (Sim.isM _ (by decide) (by decide)) | with_reducible exact Sim.keep (Sim.failM 6 (by decide)) | with_reducible exact Sim.keep (Sim.oneOf _ (by decide)) | with_reducible exact Sim.keep (Sim.exF _ _) | split)) (fun b _ => by
              cases b with
              | true => exact Good.bnd (Good.nameM h) (by intros; repeat (first | with_reducible refine Keep.bnd ?_ (fun _ => ?_) | with_reducible refine Keep.ite _ ?_ ?_ | with_reducible exact Keep.ret _ | with_reducible exact Sim.keep (Sim.mustM _) | with_reducible exact Sim.keep Sim.nameM | with_reducible exact Sim.keep Sim.nameQ | with_reducible exact Sim.keep Sim.litM | with_reducible exact Sim.keep Sim.negM | with_reducible exact Sim.keep Sim.okM | with_reducible exact Sim.keep (Sim.isM _ (by decide) (by decide)) | with_reducible exact Sim.keep (Sim.failM 6 (by decide)) | with_reducible exact Sim.keep (Sim.oneOf _ (by decide)) | with_reducible exact Sim.keep (Sim.exF _ _) | split)) (fun m hm => Good.ret (.tcol t m (hr t rfl) hm))
              | false => exact Good.ret (.col t (hr t rfl)))
          | none => exact Good.bnd (Good.any _) (by intros; repeat (first | with_reducible refine Keep.bnd ?_ (fun _ => ?_) | with_reducible refine Keep.ite _ ?_ ?_ | with_reducible exact Keep.ret _ | with_reducible exact Sim.keep (Sim.mustM _) | with_reducible exact Sim.keep Sim.nameM | with_reducible exact Sim.keep Sim.nameQ | with_reducible exact Sim.keep Sim.litM | with_reducible exact Sim.keep Sim.negM | with_reducible exact Sim.keep Sim.okM | with_reducible exact Sim.keep (Sim.isM _ (by decide) (by decide)) | with_reducible exact Sim.keep (Sim.failM 6 (by decide)) | with_reducible exact Sim.keep (Sim.oneOf _ (by decide)) | with_reducible exact Sim.keep (Sim.exF _ _) | split)) (fun b _ => by
              cases b with
              | true => exact Good.ret (.val _ (.inl ⟨rfl, rfl, rfl⟩))
              | false => exact Good.bnd (Good.any _) (by intros; repeat (first | with_reducible refine Keep.bnd ?_ (fun _ => ?_) | with_reducible refine Keep.ite _ ?_ ?_ | with_reducible exact Keep.ret _ | with_reducible exact Sim.keep (Sim.mustM _) | with_reducible exact Sim.keep Sim.nameM | with_reducible exact Sim.keep Sim.nameQ | with_reducible exact Sim.keep Sim.litM | with_reducible exact Sim.keep Sim.negM | with_reducible exact Sim.keep Sim.okM | with_reducible exact Sim.keep (Sim.isM _ (by decide) (by decide)) | with_reducible exact Sim.keep (Sim.failM 6 (by decide)) | with_reducible exact Sim.keep (Sim.oneOf _ (by decide)) | with_reducible exact Sim.keep (Sim.exF _ _) | split)) (fun b _ => by
                  cases b with
                  | true => exact Good.bnd (Good.exF h f .expr) (by intros; repeat (first | with_reducible refine Keep.bnd ?_ (fun _ => ?_) | with_reducible refine Keep.ite _ ?_ ?_ | with_reducible exact Keep.ret _ | with_reducible exact Sim.keep (Sim.mustM _) | with_reducible exact Sim.keep Sim.nameM | with_reducible exact Sim.keep Sim.nameQ | with_reducible exact Sim.keep Sim.litM | with_reducible exact Sim.keep Sim.negM | with_reducible exact Sim.keep Sim.okM | with_reducible exact Sim.keep (Sim.isM _ (by decide) (by decide)) | with_reducible exact Sim.keep (Sim.failM 6 (by decide)) | with_reducible exact Sim.keep (Sim.oneOf _ (by decide)) | with_reducible exact Sim.keep (Sim.exF _ _) | split)) (fun x hx => Good.bnd (Good.any _) (by intros; repeat (first | with_reducible refine Keep.bnd ?_ (fun _ => ?_) | with_reducible refine Keep.ite _ ?_ ?_ | with_reducible exact Keep.ret _ | with_reducible exact Sim.keep (Sim.mustM _) | with_reducible exact Sim.keep Sim.nameM | with_reducible exact Sim.keep Sim.nameQ | with_reducible exact Sim.keep Sim.litM | with_reducible exact Sim.keep Sim.negM | with_reducible exact Sim.keep Sim.okM | with_reducible exact Sim.keep (Sim.isM _ (by decide) (by decide)) | with_reducible exact Sim.keep (Sim.failM 6 (by decide)) | with_reducible exact Sim.keep (Sim.oneOf _ (by decide)) | with_reducible exact Sim.keep (Sim.exF _ _) | split)) (fun _ _ => Good.ret hx))
                  | false => exact Good.bnd (Good.any _) (by intros; repeat (first | with_reducible refine Keep.bnd ?_ (fun _ => ?_) | with_reducible refine Keep.ite _ ?_ ?_ | with_reducible exact Keep.ret _ | with_reducible exact Sim.keep (Sim.mustM _) | with_reducible exact Sim.keep Sim.nameM | with_reducible exact Sim.keep Sim.nameQ | with_reducible exact Sim.keep Sim.litM | with_reducible exact Sim.keep Sim.negM | with_reducible exact Sim.keep Sim.okM | with_reducible exact Sim.keep (Sim.isM _ (by decide) (by decide)) | with_reducible exact Sim.keep (Sim.failM 6 (by decide)) | with_reducible exact Sim.keep (Sim.oneOf _ (by decide)) | with_reducible exact Sim.keep (Sim.exF _ _) | split)) (fun b _ => by
                      cases b with
                      | true => exact Good.bnd (Good.any _) (by intros; repeat (first | with_reducible refine Keep.bnd ?_ (fun _ => ?_) | with_reducible refine Keep.ite _ ?_ ?_ | with_reducible exact Keep.ret _ | with_reducible exact Sim.keep (Sim.mustM _) | with_reducible exact Sim.keep Sim.nameM | with_reducible exact Sim.keep Sim.nameQ | with_reducible exact Sim.keep Sim.litM | with_reducible exact Sim.keep Sim.negM | with_reducible exact Sim.keep Sim.okM | with_reducible exact Sim.keep (Sim.isM _ (by decide) (by decide)) | with_reducible exact Sim.keep (Sim.failM 6 (by decide)) | with_reducible exact Sim.keep (Sim.oneOf _ (by decide)) | with_reducible exact Sim.keep (Sim.exF _ _) | split)) (fun _ _ => Good.bnd (Good.any _) (by intros; repeat (first | with_reducible refine Keep.bnd ?_ (fun _ => ?_) | with_reducible refine Keep.ite _ ?_ ?_ | with_reducible exact Keep.ret _ | with_reducible exact Sim.keep (Sim.mustM _) | with_reducible exact Sim.keep Sim.nameM | with_reducible exact Sim.keep Sim.nameQ | with_reducible exact Sim.keep Sim.litM | with_reducible exact Sim.keep Sim.negM | with_reducible exact Sim.keep Sim.okM | with_reducible exact Sim.keep (Sim.isM _ (by decide) (by decide)) | with_reducible exact Sim.keep (Sim.failM 6 (by decide)) | with_reducible exact Sim.keep (Sim.oneOf _ (by decide)) | with_reducible exact Sim.keep (Sim.exF _ _) | split)) (fun b _ => by
                          cases b with
                          | true => exact Good.bnd (Good.any _) (by intros; repeat (first | with_reducible refine Keep.bnd ?_ (fun _ => ?_) | with_reducible refine Keep.ite _ ?_ ?_ | with_reducible exact Keep.ret _ | with_reducible exact Sim.keep (Sim.mustM _) | with_reducible exact Sim.keep Sim.nameM | with_reducible exact Sim.keep Sim.nameQ | with_reducible exact Sim.keep Sim.litM | with_reducible exact Sim.keep Sim.negM | with_reducible exact Sim.keep Sim.okM | with_reducible exact Sim.keep (Sim.isM _ (by decide) (by decide)) | with_reducible exact Sim.keep (Sim.failM 6 (by decide)) | with_reducible exact Sim.keep (Sim.oneOf _ (by decide)) | with_reducible exact Sim.keep (Sim.exF _ _) | split)) (fun _ _ => Good.ret .count)
                          | false => exact Good.bnd (Good.exF h f .expr) (by intros; repeat (first | with_reducible refine Keep.bnd ?_ (fun _ => ?_) | with_reducible refine Keep.ite _ ?_ ?_ | with_reducible exact Keep.ret _ | with_reducible exact Sim.keep (Sim.mustM _) | with_reducible exact Sim.keep Sim.nameM | with_reducible exact Sim.keep Sim.nameQ | with_reducible exact Sim.keep Sim.litM | with_reducible exact Sim.keep Sim.negM | with_reducible exact Sim.keep Sim.okM | with_reducible exact Sim.keep (Sim.isM _ (by decide) (by decide)) | with_reducible exact Sim.keep (Sim.failM 6 (by decide)) | with_reducible exact Sim.keep (Sim.oneOf _ (by decide)) | with_reducible exact Sim.keep (Sim.exF _ _) | split)) (fun x hx => Good.bnd (Good.any _) (by intros; repeat (first | with_reducible refine Keep.bnd ?_ (fun _ => ?_) | with_reducible refine Keep.ite _ ?_ ?_ | with_reducible exact Keep.ret _ | with_reducible exact Sim.keep (Sim.mustM _) | with_reducible exact Sim.keep Sim.nameM | with_reducible exact Sim.keep Sim.nameQ | with_reducible exact Sim.keep Sim.litM | with_reducible exact Sim.keep Sim.negM | with_reducible exact Sim.keep Sim.okM | with_reducible exact Sim.keep (Sim.isM _ (by decide) (by decide)) | with_reducible exact Sim.keep (Sim.failM 6 (by decide)) | with_reducible exact Sim.keep (Sim.oneOf _ (by decide)) | with_reducible exact Sim.keep (Sim.exF _ _) | split)) (fun _ _ => Good.ret (.one 20 x (by omega) hx)))))
                      | false => exact Good.bnd (Good.oneOf' (fun o => 20 ≤ o ∧ o ≤ 23) (by decide)) (by intros; repeat (first | with_reducible refine Keep.bnd ?_ (fun _ => ?_) | with_reducible refine Keep.ite _ ?_ ?_ | with_reducible exact Keep.ret _ | with_reducible exact Sim.keep (Sim.mustM _) | with_reducible exact Sim.keep Sim.nameM | with_reducible exact Sim.keep Sim.nameQ | with_reducible exact Sim.keep Sim.litM | with_reducible exact Sim.keep Sim.negM | with_reducible exact Sim.keep Sim.okM | with_reducible exact Sim.keep (Sim.isM _ (by decide) (by decide)) | with_reducible exact Sim.keep (Sim.failM 6 (by decide)) | with_reducible exact Sim.keep (Sim.oneOf _ (by decide)) | with_reducible exact Sim.keep (Sim.exF _ _) | split)) (fun o ho => by
                          cases o with
                          | some o => exact Good.bnd (Good.any _) (by intros; repeat (first | with_reducible refine Keep.bnd ?_ (fun _ => ?_) | with_reducible refine Keep.ite _ ?_ ?_ | with_reducible exact Keep.ret _ | with_reducible exact Sim.keep (Sim.mustM _) | with_reducible exact Sim.keep Sim.nameM | with_reducible exact Sim.keep Sim.nameQ | with_reducible exact Sim.keep Sim.litM | with_reducible exact Sim.keep Sim.negM | with_reducible exact Sim.keep Sim.okM | with_reducible exact Sim.keep (Sim.isM _ (by decide) (by decide)) | with_reducible exact Sim.keep (Sim.failM 6 (by decide)) | with_reducible exact Sim.keep (Sim.oneOf _ (by decide)) | with_reducible exact Sim.keep (Sim.exF _ _) | split)) (fun _ _ => Good.bnd (Good.exF h f .expr) (by intros; repeat (first | with_reducible refine Keep.bnd ?_ (fun _ => ?_) | with_reducible refine Keep.ite _ ?_ ?_ | with_reducible exact Keep.ret _ | with_reducible exact Sim.keep (Sim.mustM _) | with_reducible exact Sim.keep Sim.nameM | with_reducible exact Sim.keep Sim.nameQ | with_reducible exact Sim.keep Sim.litM | with_reducible exact Sim.keep Sim.negM | with_reducible exact Sim.keep Sim.okM | with_reducible exact Sim.keep (Sim.isM _ (by decide) (by decide)) | with_reducible exact Sim.keep (Sim.failM 6 (by decide)) | with_reducible exact Sim.keep (Sim.oneOf _ (by decide)) | with_reducible exact Sim.keep (Sim.exF _ _) | split)) (fun x hx => Good.bnd (Good.any _) (by intros; repeat (first | with_reducible refine Keep.bnd ?_ (fun _ => ?_) | with_reducible refine Keep.ite _ ?_ ?_ | with_reducible exact Keep.ret _ | with_reducible exact Sim.keep (Sim.mustM _) | with_reducible exact Sim.keep Sim.nameM | with_reducible exact Sim.keep Sim.nameQ | with_reducible exact Sim.keep Sim.litM | with_reducible exact Sim.keep Sim.negM | with_reducible exact Sim.keep Sim.okM | with_reducible exact Sim.keep (Sim.isM _ (by decide) (by decide)) | with_reducible exact Sim.keep (Sim.failM 6 (by decide)) | with_reducible exact Sim.keep (Sim.oneOf _ (by decide)) | with_reducible exact Sim.keep (Sim.exF _ _) | split)) (fun _ _ => Good.ret (.one o x (by have := ho o rfl; omega) hx))))
                          | none => exact Good.fail (fun s => (failP_k 6 s (by decide)).2) _))))))
theorem Good.exprM (h : AllOk L) : Good (exprM L en) ExOk := Good.exF h FU .expr
end
end Go.Proofs.YtmdogmpcmkfjpaaGreatDoor.Dt
namespace Go.Proofs.YtmdogmpcmkfjpaaGreatDoor.Dt
open Go.Lib
set_option linter.unusedVariables false

def NamesOk (l : List ByteArray) : Prop := ∀ n ∈ l, NameOk n
def ExsOk (l : List PE) : Prop := ∀ x ∈ l, ExOk x
def ColOk (c : PCol) : Prop := NameOk c.name ∧ 1 ≤ c.ty ∧ c.ty ≤ 3
def SrcOk (x : PSrc) : Prop := NameOk x.table ∧ (x.as = ⟨#[]⟩ ∨ NameOk x.as) ∧ ExsOk x.on
/-- A statement that a text can say. -/
inductive StOk : PSt → Prop where
  | create (t : ByteArray) (cols : List PCol) (key : List ByteArray) : NameOk t → (∀ c ∈ cols, ColOk c) → NamesOk key → StOk { kind := 1, table := t, cols := cols, key := key }
  | index (u : Bool) (n t : ByteArray) (key : List ByteArray) : NameOk n → NameOk t → NamesOk key → StOk { kind := 3, uniq := u, name := n, table := t, key := key }
  | drop (t : ByteArray) : NameOk t → StOk { kind := 2, table := t }
  | dropIndex (n : ByteArray) : NameOk n → StOk { kind := 4, name := n }
  | insert (t : ByteArray) (names : List ByteArray) (rows : List (List PE)) : NameOk t → NamesOk names → (∀ r ∈ rows, ExsOk r) → StOk { kind := 5, table := t, names := names, rows := rows }
  | update (t : ByteArray) (sets : List (ByteArray × PE)) (wh : List PE) : NameOk t → (∀ c ∈ sets, NameOk c.1 ∧ ExOk c.2) → ExsOk wh → StOk { kind := 6, table := t, sets := sets, wh := wh }
  | delete (t : ByteArray) (wh : List PE) : NameOk t → ExsOk wh → StOk { kind := 7, table := t, wh := wh }
  | select (items : List (PE × ByteArray)) (src : List PSrc) (wh group having : List PE) (order : List (PE × Bool)) (limit : Int) : (∀ i ∈ items, ExOk i.1 ∧ (i.2 = ⟨#[]⟩ ∨ NameOk i.2)) → (∀ x ∈ src, SrcOk x) → ExsOk wh → ExsOk group → ExsOk having →
      (∀ x ∈ order, ExOk x.1) → -1 ≤ limit → limit ≤ 1073741824 → StOk { kind := 8, items := items, src := src, wh := wh, group := group, having := having, order := order, limit := limit }
  | begin : StOk { kind := 9 }
  | commit : StOk { kind := 10 }
  | rollback : StOk { kind := 11 }
  | save (n : ByteArray) : NameOk n → StOk { kind := 12, name := n }
  | back (n : ByteArray) : NameOk n → StOk { kind := 13, name := n }
  | release (n : ByteArray) : NameOk n → StOk { kind := 14, name := n }
section
variable {L : List Tk} {en : Int}
end
end Go.Proofs.YtmdogmpcmkfjpaaGreatDoor.Dt
namespace Go.Proofs.YtmdogmpcmkfjpaaGreatDoor.Dt
open Go.Lib
set_option linter.unusedVariables false

/-- Words behind what is written so far, each with a blank. -/
def putsL (l : List (List UInt8)) (a : List UInt8) : List UInt8 := a ++ l.flatMap (· ++ [32])
/-- A value's text. -/
def valT (v : V) : List UInt8 :=
  if v.k = 1 then (if v.n < 0 then 45 :: decDigits (-v.n).toNat else decDigits v.n.toNat)
  else if v.k = 2 then 39 :: (quoteL v.s.data.toList ++ [39])
  else if v.k = 3 then (if (writeL [⟨5, v.s, 0, 0⟩]).2 = 0 then (writeL [⟨5, v.s, 0, 0⟩]).1 else [63])
  else WNULL.data.toList
def sgnT : List (List UInt8) := [BPLUS, BMINUS, BSTAR, BDIV, BMOD, BJOIN, BEQ, BNE, BLT, BLE, BGT, BGE, WAND, WOR].map (·.data.toList)
def grpT : List (List UInt8) := [WCOUNT, WSUM, WMIN, WMAX].map (·.data.toList)
abbrev W1 (b : ByteArray) : List UInt8 := b.data.toList
/-- An expression within another one: in brackets, if it is made of others itself. -/
def kidT (w : List UInt8 → List UInt8) (op : Nat) (bare : Bool) (a : List UInt8) : List UInt8 :=
  if bare && decide (op ≤ 2 ∨ 20 ≤ op) then w a else putsL [W1 BCLOSE] (w (putsL [W1 BOPEN] a))
def wrE : PE → List UInt8 → List UInt8
  | .mk op v t m n kids, a => if 32768 < a.length then a else
    match kids with
    | [] => if op = 1 then putsL [valT v] a
      else if op = 2 then putsL [W1 m] (if t = ⟨#[]⟩ then a else putsL [W1 t, W1 BDOT] a)
      else if op = 20 then putsL [W1 WCOUNT, W1 BOPEN, W1 BSTAR, W1 BCLOSE] a
      else putsL [[63]] a
    | [x] => if op = 3 then kidT (wrE x) x.op (decide (x.op ≠ 1)) (putsL [W1 BMINUS] a)
      else if op = 4 then kidT (wrE x) x.op true (putsL [W1 WNOT] a)
      else if op = 5 then putsL [W1 WIS, W1 WNULL] (kidT (wrE x) x.op true a)
      else if 20 ≤ op ∧ op ≤ 23 then kidT (wrE x) x.op false (putsL [(grpT[op - 20]?).getD []] a)
      else putsL [[63]] a
    | [x, y] => if 6 ≤ op ∧ op ≤ 19 then kidT (wrE y) y.op true (putsL [(sgnT[op - 6]?).getD []] (kidT (wrE x) x.op true a))
      else putsL [[63]] a
    | _ => putsL [[63]] a
/-- Things with commas between. -/
def commaT {α : Type} (one : α → List UInt8 → List UInt8) : Bool → List α → List UInt8 → List UInt8
  | _, [], a => a
  | first, x :: l, a => commaT one false l (one x (if first then a else putsL [W1 BCOMMA] a))
def namesT (l : List ByteArray) (a : List UInt8) : List UInt8 := putsL [W1 BCLOSE] (commaT (fun s => putsL [W1 s]) true l (putsL [W1 BOPEN] a))
def behindT (w : List UInt8) : List PE → List UInt8 → List UInt8
  | [], a => a
  | x :: l, a => behindT w l (wrE x (putsL [w] a))
def asT (s : ByteArray) (a : List UInt8) : List UInt8 := if s = ⟨#[]⟩ then a else putsL [W1 WAS, W1 s] a
def tyT : List (List UInt8) := [[63], W1 WINTEGER, W1 WTEXT, W1 WBLOB]
def colsT : List PCol → List UInt8 → List UInt8
  | [], a => a
  | c :: l, a => colsT l (putsL [W1 BCOMMA] (if c.nn then putsL [W1 WNOT, W1 WNULL] (putsL [W1 c.name, (tyT[c.ty % 4]?).getD []] a) else putsL [W1 c.name, (tyT[c.ty % 4]?).getD []] a))
def createT (x : PSt) (a : List UInt8) : List UInt8 :=
  if x.kind = 3 then namesT x.key (putsL [W1 WINDEX, W1 x.name, W1 WON, W1 x.table] (if x.uniq then putsL [W1 WUNIQUE] (putsL [W1 WCREATE] a) else putsL [W1 WCREATE] a))
  else putsL [W1 BCLOSE] (namesT x.key (putsL [W1 WPRIMARY, W1 WKEY] (colsT x.cols (putsL [W1 WCREATE, W1 WTABLE, W1 x.table, W1 BOPEN] a))))
def itemT (x : PE × ByteArray) (a : List UInt8) : List UInt8 := asT x.2 (wrE x.1 a)
def srcT : Bool → List PSrc → List UInt8 → List UInt8
  | _, [], a => a
  | first, x :: l, a => srcT false l (behindT (W1 WON) x.on (asT x.as (if first then putsL [W1 WFROM, W1 x.table] a else putsL [W1 WJOIN, W1 x.table] a)))
def orderT (x : PE × Bool) (a : List UInt8) : List UInt8 := if x.2 then putsL [W1 WDESC] (wrE x.1 a) else wrE x.1 a
def chooseT (x : PSt) (a : List UInt8) : List UInt8 :=
  let a := putsL [W1 WSELECT] a
  let a := if x.items.isEmpty then putsL [W1 BSTAR] a else a
  let a := commaT itemT true x.items a
  let a := srcT true x.src a
  let a := behindT (W1 WWHERE) x.wh a
  let a := if x.group.isEmpty then a else commaT wrE true x.group (putsL [W1 WGROUP, W1 WBY] a)
  let a := behindT (W1 WHAVING) x.having a
  let a := if x.order.isEmpty then a else commaT orderT true x.order (putsL [W1 WORDER, W1 WBY] a)
  if 0 ≤ x.limit then putsL [W1 WLIMIT, decDigits x.limit.toNat] a else a
def rowT (l : List PE) (a : List UInt8) : List UInt8 := putsL [W1 BCLOSE] (commaT wrE true l (putsL [W1 BOPEN] a))
def setT (x : ByteArray × PE) (a : List UInt8) : List UInt8 := wrE x.2 (putsL [W1 x.1, W1 BEQ] a)
def wrSt (x : PSt) (a : List UInt8) : List UInt8 :=
  if x.kind = 1 ∨ x.kind = 3 then createT x a
  else if x.kind = 2 then putsL [W1 WDROP, W1 WTABLE, W1 x.table] a
  else if x.kind = 4 then putsL [W1 WDROP, W1 WINDEX, W1 x.name] a
  else if x.kind = 5 then commaT rowT true x.rows (putsL [W1 WVALUES] (namesT x.names (putsL [W1 WINSERT, W1 WINTO, W1 x.table] a)))
  else if x.kind = 6 then behindT (W1 WWHERE) x.wh (commaT setT true x.sets (putsL [W1 WUPDATE, W1 x.table, W1 WSET] a))
  else if x.kind = 7 then behindT (W1 WWHERE) x.wh (putsL [W1 WDELETE, W1 WFROM, W1 x.table] a)
  else if x.kind = 8 then chooseT x a
  else if x.kind = 9 then putsL [W1 WBEGIN] a
  else if x.kind = 10 then putsL [W1 WCOMMIT] a
  else if x.kind = 11 then putsL [W1 WROLLBACK] a
  else if x.kind = 12 then putsL [W1 WSAVEPOINT, W1 x.name] a
  else if x.kind = 13 then putsL [W1 WROLLBACK, W1 WTO, W1 x.name] a
  else if x.kind = 14 then putsL [W1 WRELEASE, W1 x.name] a
  else a
/-- Without the blank at its end. -/
def trimL (a : List UInt8) : List UInt8 := if a.getLast? = some 32 then a.dropLast else a
end Go.Proofs.YtmdogmpcmkfjpaaGreatDoor.Dt
