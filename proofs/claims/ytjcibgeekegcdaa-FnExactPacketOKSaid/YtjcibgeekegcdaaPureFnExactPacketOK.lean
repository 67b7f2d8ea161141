/- The pure statement of the law FnExactPacketOK: what its functions compute answers as the law says. -/
import Derived.Test.YtjcibgeekegcdaaDefFnExactPacketOK
namespace Go.Proofs.Ytjcibgeekegcdaa.Pure
open Go.RowKit Go.Proofs.Ytjcibgeekegcdaa.Q Go.Proofs.YtjcibgeekegcdaaW.PrintWords Go.Proofs.YtjcibgeekegcdaaW.PrintLast

theorem FnExactPacketOK : laws_FnExactPacketOK.PureF := by
  intro a b s ha hb hs
  unfold laws_FnExactPacketOK.f laws_szPacket.f laws_toPacket.f impl_PacketOK.f spec_PacketOK.f spec_l01In.f impl_within.f
  simp only [Option.bind_some]
  repeat' split
  all_goals (try simp only [Option.bind_some])
  all_goals (try simp_all)
  all_goals (repeat' split)
  all_goals (first | rfl | (simp_all; done))

end Go.Proofs.Ytjcibgeekegcdaa.Pure
