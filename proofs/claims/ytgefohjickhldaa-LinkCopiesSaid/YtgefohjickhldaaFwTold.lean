/- A call whose memory is told anew just ahead of it: nil as a row of no elements, rows forgotten. -/
import Derived.Test.YtgefohjickhldaaFwHoleL
namespace Go.Fw
open Go.RowKit
theorem SCall.told {E : Env} {f : FuncId} {args : List Value} {h tg h' : Heap} {v : Value} {rl : List Nat} (hn : h.next ≤ tg.next) (hk : keepsL h.next rl = true) (own : ((List.range h.next).all fun b => match h.get b with | some x => x.own | none => true) = true) (own' : ∀ b x, tg.get b = some x → x.own = true) (hf : FineT E h rl tg) (c : SCall E f args tg v h') : SCall E f args h v h' := by
  intro ok
  obtain ⟨h1, hc⟩ := c ok
  refine ⟨h1, fun μ base w args' R hbase ha => ?_⟩
  have R2 := hf.rel R
  have t := hf.tom (w := w) (L := h.next) (Nat.le_refl _) R hk
  have e : Ext h μ w.heap tg (μH h μ rl) w.heap := by
    refine ⟨hn, t.mu, t.back, fun b x hb hx ho => ?_, fun b x hb _ hx => own' b x hx, t.mem, t.ice, t.icy, t.iced, Nat.le_refl _, t.iceY, t.icedY⟩
    have := List.all_eq_true.1 own b (by simpa using hb)
    rw [hx] at this
    simp only at this
    rw [ho] at this
    cases this
  refine Calls.mono (hc (μH h μ rl) base w args' R2 hbase (ha.mono fun _ _ r => r.mono e)) fun e' w' he => ?_
  obtain ⟨v', μ', rfl, R', e2, bl, hv⟩ := he
  exact ⟨v', μ', rfl, R', e.trans e2, bl, hv⟩
theorem WpCall.told {E : Env} {f : FuncId} {args : List Value} {h : Heap} {K : Value → Heap → Prop} (rl : List Nat) (bs : List (Option Blk)) (hn : h.next ≤ bs.length) (hk : keepsL h.next rl = true) (own : ((List.range h.next).all fun b => match h.get b with | some x => x.own | none => true) = true) (own' : ownO bs = true) (hnd : (keysO rl bs).Nodup) (hb : BlksO E h rl bs.length rl bs) (hw : WpCall E f args (heapO bs) K) : WpCall E f args h K := by
  obtain ⟨v, h', c, k⟩ := hw
  exact ⟨v, h', SCall.told hn hk own (fun b x hx => ownO_at own' b x hx) (FineT.of hnd hb) c, k⟩
end Go.Fw
