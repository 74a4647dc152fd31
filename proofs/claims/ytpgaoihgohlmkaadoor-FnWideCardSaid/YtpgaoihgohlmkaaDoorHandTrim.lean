/- The shelf: strings.Trim at an ASCII cutset, at this dump; a byte's difference as a wider number. Conditions: none of its own. -/
import Derived.Shelf.Strings.SlTrimAscii
import Derived.Lib.SlTrimSet
import Derived.Test.YtpgaoihgohlmkaaDoorHandShelf
namespace Go.Proofs.YtpgaoihgohlmkaaDoor.HandX
theorem u8sub_ (x : Int) : IntKind.u64.wrap (IntKind.u8.wrap x) = x % 256 := by
  simp only [IntKind.wrap, IntKind.bits, IntKind.signed]
  simp
  omega
end Go.Proofs.YtpgaoihgohlmkaaDoor.HandX
