/- A literal of rows of whole numbers, laid out in blocks one behind the other, owns its rows apart. Condition: the blocks hold these cells. -/
import Derived.Test.YtpdgjciaihlhmaaWApart
namespace Go.Proofs.Ytpdgjciaihlhmaa.LK
open Go.RowKit Go.Proofs.YtpdgjciaihlhmaaW.PrintWords
theorem R_ints_of {W : World} {base g e : Nat} {ok : Nat → Prop} {xs : List Int} {cur : Array Value} (hb : W.heap[g]? = some (.cells cur e (0, 0))) (hc : cur.toList = xs.map (Value.int .i64)) (h0 : base ≤ g) (hl : xs.length ≤ maxLen) (hok : ok g) :
    Kd.R (Kd.int .i64) e W base ok (.slice (some ⟨g, 0, none⟩) xs.length xs.length) xs := by
  have hs : cur.size = xs.length := by have := congrArg List.length hc; simpa using this
  refine ⟨fun k hk => ?_, xs.map (Value.int .i64), ⟨by simp [Kd.int, Kd.scalar], .inr ⟨g, xs.length, cur, rfl, h0, hb, Nat.le_refl _, hl, by simp [Kd.int, Kd.scalar, hs], ?_⟩⟩, ⟨by simp [Kd.int, Kd.scalar], fun j p hj => ?_⟩⟩
  · simp [Value.ownBlock] at hk; subst hk; exact hok
  · rw [hc, List.take_of_length_le (by simp [Kd.int, Kd.scalar])]
  · show _ = _
    have hjl := (List.getElem?_eq_some_iff.1 hj).1
    have hjg := (List.getElem?_eq_some_iff.1 hj).2
    simp only [Kd.int, Kd.scalar, Nat.mul_one]
    rw [List.drop_eq_getElem_cons (by simpa using hjl)]
    simp [hjg]
theorem S_rows_of {W : World} {base g b0 e e2 : Nat} {rows : List (List Int)} {cur : Array Value} (hb : W.heap[g]? = some (.cells cur e2 (0, 0)))
    (hc : ∀ (i : Nat) (x : List Int), rows[i]? = some x → cur.toList[i]? = some (Value.slice (some ⟨b0 + i, 0, none⟩) x.length x.length)) (hs : cur.size = rows.length) (h0 : base ≤ g) (hl : rows.length ≤ maxLen)
    (hr : ∀ (i : Nat) (x : List Int), rows[i]? = some x → (∃ c : Array Value, W.heap[b0 + i]? = some (.cells c e (0, 0)) ∧ c.toList = x.map (Value.int .i64)) ∧ base ≤ b0 + i ∧ b0 + i ≠ g ∧ x.length ≤ maxLen) :
    Kd.S (Kd.slice e (Kd.int .i64)) e2 W base (fun _ => True) (.slice (some ⟨g, 0, none⟩) rows.length rows.length) rows := by
  refine ⟨fun k => k - b0, fun k _ => trivial, cur.toList, ?_, ?_⟩
  · have hz : rows.zipIdx.length = rows.length := List.length_zipIdx
    refine ⟨?_, .inr ⟨g, rows.length, cur, by rw [hz], h0, hb, by rw [hz]; exact Nat.le_refl _, hl, ?_, ?_⟩⟩
    · rw [hz]; simp [Kd.tag, Kd.slice, hs]
    · simp [Kd.tag, Kd.slice, hs]
    · rw [hz, List.take_of_length_le (by simp [Kd.tag, Kd.slice, hs])]
  · refine ⟨by rw [List.length_zipIdx]; simp [Kd.tag, Kd.slice, hs], fun j p hj => ?_⟩
    rw [List.getElem?_zipIdx, Nat.zero_add] at hj
    obtain ⟨x, hx, rfl⟩ := Option.map_eq_some_iff.1 hj
    obtain ⟨⟨c, hbc, hcc⟩, hbb, hne, hlx⟩ := hr j x hx
    have hcj := hc j x hx
    have hjl : j < cur.toList.length := (List.getElem?_eq_some_iff.1 hcj).1
    refine ⟨_, ?_, R_ints_of hbc hcc hbb hlx ⟨⟨trivial, fun he => hne ?_⟩, by simp⟩⟩
    · show ((cur.toList.drop (j * 1)).take 1) = _
      rw [Nat.mul_one, List.drop_eq_getElem_cons hjl, (List.getElem?_eq_some_iff.1 hcj).2]
      rfl
    · simpa [Value.ownBlock] using he
end Go.Proofs.Ytpdgjciaihlhmaa.LK
