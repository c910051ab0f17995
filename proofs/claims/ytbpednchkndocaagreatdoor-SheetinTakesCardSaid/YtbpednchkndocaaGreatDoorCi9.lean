/- Cells are read: the document's Take; cells that are the same. -/
import Derived.Test.YtbpednchkndocaaGreatDoorCi8a
import Derived.Test.YtbpednchkndocaaGreatDoorCi8b
import Derived.Test.YtbpednchkndocaaGreatDoorCi8c
import Derived.Test.YtbpednchkndocaaGreatDoorCi8d
set_option linter.unusedVariables false
set_option linter.unusedSimpArgs false
set_option maxRecDepth 100000
set_option maxHeartbeats 64000000
namespace Go.Proofs.YtbpednchkndocaaGreatDoor.Av
namespace Ci
open Go Bt Tc Co Bl
attribute [local irreducible] aa ACalls aO aC bB aR
variable {gl:List (Nat×List D)}
attribute [local irreducible] ak Tc.cn hdX mdX bdX aS
theorem wB (b:Bool) (px py:Int) (s:List UInt8) (p:Nat) (hpx:I64 px) (hpy:I64 py) (hs:s.length≤100000) (hp:p≤8*s.length) :
  ACalls (cxg gl) 62 [S (aS s),I p,B b, .d (.agg [In px,In py])] []
  (fun r H=>r = .bK [.d (gz (gy b px py (ak s p)).1),I ((p+(gy b px py (ak s p)).2.2:Nat):Int),I (gy b px py (ak s p)).2.1]∧H=[]):=by
 have rb:=F7 (gl:=gl) b s p hs hp
 have hB:=rK b 65 0 (ak s p)
 have hBl:=bY s p
 unfold gy
 generalize hdX b 65 0 (ak s p)=h at *
 obtain⟨h1,h2,h3⟩:=hB
 rw[hBl]at h1
 obtain⟨st,sk,k,ch,e,u⟩:=h
 simp only at rb h1 h2 h3 ⊢
 by_cases he:e=0
 ·subst he
  rw[yj rfl]at rb
  simp only at rb
  cases sk with
  |true =>
   obtain rfl:=h2 rfl
   unfold kH
   simp only[ne_eq,not_true_eq_false,if_false,if_true]
   refine ACalls.en Tryz.func62 Tryz.ntmps62 ?_
   repeat' (first|refine aa.aD ?_|refine aa.bh true ?_|refine aa.ah (rb) ?_|refine aa.au ?_|refine aa.ai ?_|refine aa.aG ?_|refine aa.ba ?_|refine aa.aA ?_|refine aa.aL ?_|refine aa.aK ?_|(apply aa.gN (.bK [.d (gz (Ms st true)),I ((p+u:Nat):Int),I 0]);rfl;exact aT.bK ⟨aT.d (cJ st true),aT.refl _,aT.refl _,trivial⟩;rfl;rfl;rfl)|intro _)
   all_goals first|exact⟨rfl,rfl⟩|omega
  |false =>
   obtain⟨hk,hch⟩:=h3 rfl rfl
   rcases hk with rfl|rfl|rfl|rfl
   ·exact Ld b px py st ch u s p hpx hpy hs hch (by omega) rb
   ·exact Lc b px py st ch u s p hpx hpy hs hch (by omega) rb
   ·exact Lb b px py st ch u s p hpx hpy hs hch (by omega) rb
   ·exact La b px py st ch u s p hpx hpy hs hch (by omega) rb
 ·rw[jQ he]at rb
  unfold kH
  simp only
  rw[if_pos he]
  simp only[Nat.add_zero]
  refine ACalls.en Tryz.func62 Tryz.ntmps62 ?_
  repeat' (first|refine aa.aD ?_|refine aa.bh true ?_|refine aa.ah (rb) ?_|refine aa.au ?_|refine aa.ai ?_|refine aa.aG ?_|refine aa.ba ?_|refine aa.aA ?_|refine aa.aL ?_|refine aa.aK ?_|(apply aa.gN (.bK [.d (gz lC),I p,I e]);rfl;exact aT.bK ⟨aT.d (cJ 0 false),aT.refl _,aT.refl _,trivial⟩;rfl;rfl;rfl)|intro _)
  all_goals first|exact⟨rfl,rfl⟩|omega
end Ci
end Go.Proofs.YtbpednchkndocaaGreatDoor.Av
