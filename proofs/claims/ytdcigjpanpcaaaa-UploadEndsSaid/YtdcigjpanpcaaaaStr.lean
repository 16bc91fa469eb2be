/- Strings as lists of bytes: what the model's cutting and joining make of them. -/
import Derived.Test.YtdcigjpanpcaaaaData
namespace Go.Proofs.Ytdcigjpanpcaaaa
open Go.RowKit

@[go_sem] theorem str_extract (l : Str) (a b : Nat) : ByteArray.extract ⟨l.toArray⟩ a b = ⟨((l.take b).drop a).toArray⟩ := by
  have h : (ByteArray.extract ⟨l.toArray⟩ a b).data = ((l.take b).drop a).toArray := by
    simp [List.drop_take]
  calc ByteArray.extract ⟨l.toArray⟩ a b = ⟨(ByteArray.extract ⟨l.toArray⟩ a b).data⟩ := rfl
    _ = _ := by rw [h]

@[go_sem] theorem str_append (a b : Str) : (⟨a.toArray⟩ : ByteArray) ++ (⟨b.toArray⟩ : ByteArray) = ⟨(a ++ b).toArray⟩ := by
  have h : ((⟨a.toArray⟩ : ByteArray) ++ (⟨b.toArray⟩ : ByteArray)).data = (a ++ b).toArray := by simp
  calc (⟨a.toArray⟩ : ByteArray) ++ (⟨b.toArray⟩ : ByteArray) = ⟨((⟨a.toArray⟩ : ByteArray) ++ (⟨b.toArray⟩ : ByteArray)).data⟩ := rfl
    _ = _ := by rw [h]
end Go.Proofs.Ytdcigjpanpcaaaa
