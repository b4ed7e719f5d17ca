/-
  The examples of the documentation (plain law of layer 21).
-/
import Derived.Test.YtljdbikodogeiaaDoorB6
import Derived.KernelRfl
namespace Go.Proofs.YtljdbikodogeiaaDoor
open Go.RowKit
def plainP : api_Profile := (api_Profile.mk (ByteArray.mk #[110]) (0 : Int) (0 : Int) (2 : Int) false (0 : Int) false false (40 : Int) (3 : Int) (0 : Int) (0 : Int) ([] : List ByteArray) (0 : Int) (0 : Int) (0 : Int) (0 : Int) false (1 : Int) (0 : Int) (1 : Int) (0 : Int))
def actE (kind target n : Int) (text : ByteArray) : api_Event := (api_Event.mk (1 : Int) (0 : Int) ([] : List Int) kind (0 : Int) target (-1 : Int) (-1 : Int) n text ([] : List Int) (0 : Int))
def storyE : List api_Event := [actE 0 (-1) 0 (ByteArray.mk #[104, 101, 108, 108, 111]), actE 0 0 0 (ByteArray.mk #[121, 101, 115]), actE 1 0 0 (ByteArray.mk #[104, 117, 108, 108, 111]), actE 3 0 7 (ByteArray.mk #[]), actE 2 0 0 (ByteArray.mk #[])]
theorem plain_eq : law21_plain = some plainP := rfl
theorem story_eq : law21_story = some storyE := rfl
theorem plain_ok : ProfOk plainP := ⟨by decide, by decide, fun t ht => by simp [plainP] at ht⟩
theorem plain_chk : chk plainP = 0 := by kernel_rfl
theorem story_few : fewB storyE [] = true := by kernel_rfl
theorem story_net : NetOk (netOf plainP storyE []) := net_ok plain_chk story_few fun x hx => by
  have : x ∈ [actE 0 (-1) 0 (ByteArray.mk #[104, 101, 108, 108, 111]), actE 0 0 0 (ByteArray.mk #[121, 101, 115]), actE 1 0 0 (ByteArray.mk #[104, 117, 108, 108, 111]), actE 3 0 7 (ByteArray.mk #[]), actE 2 0 0 (ByteArray.mk #[])] := hx
  simp only [List.mem_cons, List.not_mem_nil, or_false] at this
  rcases this with rfl | rfl | rfl | rfl | rfl <;> exact ⟨by unfold i64 actE; decide, by unfold i64 actE; decide, fun f hf => by simp [actE] at hf⟩
theorem itoa7 : itoaS 7 = ByteArray.mk #[55] := by
  unfold itoaS Lib.itoa
  rw [if_neg (by decide), Lib.decDigits]
  rfl
def oneI (id kind on : Int) (text : ByteArray) : api_Item := ⟨id, 0, 1, kind, on, 0, -1, -1, 0, text, []⟩
theorem all0 : forthS plainP storyE [] 0 = ([oneI 0 0 (-1) (ByteArray.mk #[104, 101, 108, 108, 111])], 0) := by kernel_rfl
theorem all1 : forthS plainP storyE [] 1 = ([oneI 1 0 (-1) (ByteArray.mk #[114, 101, 58, 32, 104, 101, 108, 108, 111, 10, 121, 101, 115])], 0) := by kernel_rfl
theorem all2 : forthS plainP storyE [] 2 = ([oneI 2 0 (-1) (ByteArray.mk #[101, 100, 105, 116, 58, 32, 104, 101, 108, 108, 111, 10, 104, 117, 108, 108, 111])], 0) := by kernel_rfl
theorem all4 : forthS plainP storyE [] 4 = ([oneI 4 2 0 (ByteArray.mk #[])], 0) := by kernel_rfl
theorem all3 : forthS plainP storyE [] 3 = ([oneI 3 0 (-1) (ByteArray.mk #[114, 101, 97, 99, 116, 105, 111, 110, 32, 55])], 0) := by
  have e : reactText (netOf plainP storyE []) 3 = ByteArray.mk #[114, 101, 97, 99, 116, 105, 111, 110, 32, 55] := by
    have e1 : reactText (netOf plainP storyE []) 3 = ByteArray.mk #[114, 101, 97, 99, 116, 105, 111, 110, 32] ++ itoaS 7 := rfl
    rw [e1, itoa7]
    rfl
  have e2 : forthS plainP storyE [] 3 = (postS (netOf plainP storyE []) 3 (reactText (netOf plainP storyE []) 3) (placeS (netOf plainP storyE []) 0), 0) := rfl
  have e3 : (postS (netOf plainP storyE []) 3 (ByteArray.mk #[114, 101, 97, 99, 116, 105, 111, 110, 32, 55]) (placeS (netOf plainP storyE []) 0), (0 : Int)) = ([oneI 3 0 (-1) (ByteArray.mk #[114, 101, 97, 99, 116, 105, 111, 110, 32, 55])], 0) := by kernel_rfl
  rw [e2, e, e3]
theorem says_eq {id kind on : Int} {text : ByteArray} (h : forthS plainP storyE [] id = ([oneI id kind on text], 0)) : law21_says id kind on text = some true := by
  unfold law21_says
  rw [plain_eq, bind_s, compile_eq _ plain_ok, bind_s, plain_chk, bind_s, story_eq, bind_s]
  simp only [bne_self_eq_false, cond_false]
  rw [forth_eq plain_ok plain_chk story_net, bind_s, h]
  have hr := item_refl (oneI id kind on text) (by simp [oneI])
  have e1 : ((0 : Int) != 0) = false := rfl
  have e2 : (((([oneI id kind on text] : List api_Item).length : Nat) : Int) != 1) = false := rfl
  have e3 : (decide (0 ≤ (0 : Int)) && decide ((0 : Int) < ((([oneI id kind on text] : List api_Item).length : Nat) : Int))) = true := rfl
  have e4 : getI [oneI id kind on text] 0 = some (oneI id kind on text) := rfl
  simp only [e1, e2, e3, e4, cond_false, chkO_true, bind_s]
  unfold oneI at hr ⊢
  rw [hr]
  rfl
theorem small_true : law21_small = some true := by
  unfold law21_small
  rw [plain_eq, bind_s, story_eq, bind_s]
  have hf : forth_Forth plainP [] storyE [] 0 = some ([], 1) := by
    unfold forth_Forth
    rw [compile_eq _ plain_ok, bind_s, plain_chk]
    rfl
  rw [hf, bind_s, says_eq all0, bind_s, cond_true, says_eq all1, bind_s, cond_true, says_eq all2, bind_s, cond_true, says_eq all3, bind_s, cond_true, says_eq all4, bind_s, cond_true]
  rfl
end Go.Proofs.YtljdbikodogeiaaDoor
