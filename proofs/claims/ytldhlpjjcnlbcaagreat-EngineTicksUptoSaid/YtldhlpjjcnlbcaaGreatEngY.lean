/- What engines of laws are like: lengths of what they become. -/
import Derived.Test.YtldhlpjjcnlbcaaGreatEngX
import Derived.Test.YtldhlpjjcnlbcaaGreatEngM
set_option maxRecDepth 100000
set_option maxHeartbeats 8000000
namespace Go.Proofs.YtldhlpjjcnlbcaaGreat
open Go.RowKit
theorem becE_len2 {g:Eng}{ms:List Ltr}(h:SetOk g.F g.p g.ins g.now g.cs g.last)(hv:g.vs.length=g.F.length)(hms:ms.length<=80)(hi:inL g.ins.length)(hP:inL g.P.length):inL (becE g ms).1.F.length/\inL (becE g ms).1.P.length/\inL (becE g ms).1.ins.length/\inL (becE g ms).1.cs.length/\inL (becE g ms).1.vs.length/\inL (becE g ms).2.1.length:=by
 have h14:=(z0h (z13 h.1.1).1).1
 have hE:=(z5m (vs:=g.vs) h hv (nr _)).2.1
 have hc:(setE g).calls.length=g.F.length:=hE.cl
 have hvl:(setE g).vals.length=g.F.length:=hE.vl
 have hl:(setE g).ltrs.length<=g.F.length:=hE.ll
 unfold becE
 split
 ·unfold toEng
  dsimp only
  refine⟨by unfold inL;omega,hP,hi,by unfold inL;omega,by unfold inL;omega,by rw[List.length_append];unfold inL;omega⟩
 exact⟨Nat.zero_le _,Nat.zero_le _,Nat.zero_le _,Nat.zero_le _,Nat.zero_le _,Nat.zero_le _⟩
def LenOk (g:Eng)(ls:List Ltr):Prop:=inL g.F.length/\inL g.P.length/\inL g.ins.length/\inL g.cs.length/\inL g.vs.length/\inL ls.length
theorem z8a:LenOk noEng []:=⟨Nat.zero_le _,Nat.zero_le _,Nat.zero_le _,Nat.zero_le _,Nat.zero_le _,Nat.zero_le _⟩
end Go.Proofs.YtldhlpjjcnlbcaaGreat
