/- A part of the proof: R9 R10. -/
import Derived.Deep.RegionHeld3
import Derived.Laws.OwnMore
import Derived.Test.YtfajelpcfnfjkaaGreatDoorA09
set_option linter.unusedVariables false
set_option linter.unusedSimpArgs false
namespace Go.Proofs.YtfajelpcfnfjkaaGreatDoor
open Go.RowKit
theorem own_rd2 {w:World} {base:Nat} {e:TypeId} {size:Nat} {v:Value} {n:Nat} {xs:List Value} (h:w.ownsRow base e size v n xs):
  ∃A cap,v=.slice A n cap∧n≤cap∧cap≤maxLen∧Rd w A xs∧∀ad,A=some ad→base≤ad.block:=by
 obtain⟨A,cap,rfl,h1,h2,h3,h4⟩:=own_rd h;refine⟨A,cap,rfl,h1,h2,h3,?_⟩;rcases h.2 with⟨h',_⟩|⟨g,cap',cur,h',hb,_⟩
 ·injection h' with h';subst h';intro ad h;cases h
 ·injection h' with h';subst h';intro ad h;injection h with h;subst h;exact hb
theorem LimI.onl {w w':World} {A:Option Addr} {len cap n G:Nat} (h:LimI w A len cap n) (ho:Onl G w w') (hG:∀ad,A=some ad→ad.block≠G):LimI w' A len cap n:=by
 obtain⟨l,m,xs,e,r,c,v⟩:=h;refine⟨l,m,xs,e,?_,c,v⟩;rcases r with r|⟨b,off,rfl,hb,hc⟩
 ·exact .inl r
 ·exact ho.rd (.inr ⟨b,off,rfl,hb,hc⟩) (hG _ rfl)
end Go.Proofs.YtfajelpcfnfjkaaGreatDoor
