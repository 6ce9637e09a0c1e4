/- Contracts over states for the measures, the copies and the comparisons of the laws. -/
import Derived.Test.YtbelopdphlllnaaAk
import Derived.Test.YtbelopdphlllnaaTrd
namespace Go.Proofs.Ytbelopdphlllnaa
open Go.RowKit

theorem fc_szSTG (x : DSTG) (left : Int) (h0 : 0 ≤ left) (h1 : left ≤ 1048576) : FC Try.prog 14 [(true, leaves lSTG x), (false, [dI left])] [] 0 (Pure (lf (dI (szv left (Ty.tot lSTG x))))) :=
  FC.ofSzA (fun us w hr => by
    obtain ⟨a0, a1, a2, a3, a4, rfl⟩ := list_len5 hr.len
    exact szSTG_any a0 a1 a2 a3 a4 x left w hr h0 h1) h0 h1

theorem fc_toSTG (x : DSTG) (hz : Ty.tot lSTG x ≤ 1048576) : FC Try.prog 16 [(true, leaves lSTG x)] [] 0 (Is (ag (oL tSTG x 0)) (oT tSTG x 0)) :=
  FC.ofOwnA fun gh w vs ha => by
    obtain ⟨us, vs, rfl, hr, ha⟩ := ha.agg_cons
    obtain rfl := ha.nil_
    obtain ⟨a0, a1, a2, a3, a4, rfl⟩ := list_len5 hr.len
    refine Calls.mono (toSTG_any a0 a1 a2 a3 a4 x w hr hz) fun e w' he => ?_
    obtain ⟨u0, u1, u2, u3, u4, rfl, h1, h2⟩ := he
    exact ⟨_, rfl, h1, h2⟩

theorem fc_eqSTG (x y : DSTG) (h : x = y) : FC Try.prog 19 [(true, leaves tSTG x), (true, leaves tSTG y)] [] 0 (Pure (lf (dB true))) :=
  FC.ofEqA h fun us vs w h1 h2 => by
    obtain ⟨a0, a1, a2, a3, a4, rfl⟩ := list_len5 h1.len
    obtain ⟨b0, b1, b2, b3, b4, rfl⟩ := list_len5 h2.len
    exact eqSTG_same a0 a1 a2 a3 a4 b0 b1 b2 b3 b4 x w h1 h2

end Go.Proofs.Ytbelopdphlllnaa
