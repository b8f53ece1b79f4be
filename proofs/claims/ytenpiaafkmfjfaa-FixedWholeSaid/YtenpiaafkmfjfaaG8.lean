/- What a sound number is made of: the least int64 counts as the greatest one's opposite, flagged. -/
import Derived.Test.YtenpiaafkmfjfaaB3
namespace Go.Proofs.Ytenpiaafkmfjfaa.B
def sv (v : Int) : Int := if v = -9223372036854775808 then -9223372036854775807 else v
def sf (v : Int) (f : Bool) : Bool := if v = -9223372036854775808 then true else f
theorem sound_f (v : Int) (f : Bool) : fixed_sound.f v f = some (sv v, sf v f) := by
  unfold fixed_sound.f sv sf; split <;> rfl
end Go.Proofs.Ytenpiaafkmfjfaa.B
