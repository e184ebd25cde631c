/- impl.NetOk, and impl.NetText of a net that is not ok. No other condition. -/
import Derived.Test.YtphblfmjdiigkaaGreatDoorTFnExactNetTextHFnExactNetTextx6
import Derived.Test.YtphblfmjdiigkaaGreatDoorTFnExactNetTextHFnExactNetTextx11
import Derived.Test.YtphblfmjdiigkaaGreatDoorTFnExactNetTextHj8
import Derived.Test.YtphblfmjdiigkaaGreatDoorTFnExactNetTextHj7
import Derived.Test.YtphblfmjdiigkaaGreatDoorTFnExactNetTextHj6
import Derived.Test.YtphblfmjdiigkaaGreatDoorTFnExactNetTextHj5
import Derived.WalkLawsBesides
import Derived.WalkSpells
import Derived.Deep.RegionHeld
import Derived.Deep.DeepCutAuto
import Derived.Deep.CutBlock
namespace Go.Proofs.YtphblfmjdiigkaaGreatDoor.Hj9
open Go.RowKit Go.Proofs.YtphblfmjdiigkaaGreatDoor.Hj8 Go.Proofs.YtphblfmjdiigkaaGreatDoor.Hb Go.Proofs.YtphblfmjdiigkaaGreatDoor.Hj1 Go.Proofs.YtphblfmjdiigkaaGreatDoor.Hj2 Go.Proofs.YtphblfmjdiigkaaGreatDoor.Hj3 Go.Proofs.YtphblfmjdiigkaaGreatDoor.Hj4 Go.Proofs.YtphblfmjdiigkaaGreatDoor.Hj5 Go.Proofs.YtphblfmjdiigkaaGreatDoor.Hj6 Go.Proofs.YtphblfmjdiigkaaGreatDoor.Hj7 Go.Proofs.YtphblfmjdiigkaaGreatDoor.HFnExactNetText Go.Proofs.YtphblfmjdiigkaaGreatDoorW.PrintWords Go.Proofs.YtphblfmjdiigkaaGreatDoorW.PrintLast Go.Proofs.YtphblfmjdiigkaaGreatDoorW.PrintMore
set_option linter.unusedVariables false
set_option linter.unusedSimpArgs false
end Go.Proofs.YtphblfmjdiigkaaGreatDoor.Hj9
