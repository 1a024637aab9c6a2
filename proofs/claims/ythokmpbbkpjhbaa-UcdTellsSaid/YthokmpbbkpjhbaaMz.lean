import Derived.Test.YthokmpbbkpjhbaaMy
namespace Go.Proofs.Ythokmpbbkpjhbaa
end Go.Proofs.Ythokmpbbkpjhbaa
