/- copy, append, make, and bytes out of strings. No program is named here. -/
import Derived.Test.YtglmkcfmcoianaaGreatDoorF
import Derived.Laws.Append
import Derived.Lib.ConvBytes
namespace Go.Proofs.Ch
open Go
/-- what is copied or appended: so many elements, these cells -/
def Src (h : Heap) (L : Owned) (size : Nat) (v : Value) (n : Nat) (us : List Value) : Prop :=
  (∃ b off cap cs T fr, v = .slice (some ⟨b, off, none⟩) n cap ∧ Kn h L b (.cells ⟨cs⟩ T fr) ∧ cut off (n * size) cs = some us) ∨ (∃ a cap, v = .slice a n cap ∧ n = 0 ∧ us = []) ∨ (∃ s : ByteArray, v = .string s ∧ n = s.size ∧ us = s.data.toList.map byteV ∧ size = 1)
section
variable {P : Program} {h : Heap} {L : Owned} {w : World} {size n : Nat} {v : Value} {us : List Value}
theorem Src.len (s : Src h L size v n us) : us.length = n * size := by
  rcases s with ⟨b, off, cap, cs, T, fr, rfl, _, hc⟩ | ⟨a, cap, rfl, rfl, rfl⟩ | ⟨s, rfl, rfl, rfl, rfl⟩
  · exact (cut_spec hc).2
  · simp
  · simp
theorem Src.lenOf (s : Src h L size v n us) : Builtin.lenOf v = pure n := by
  rcases s with ⟨b, off, cap, cs, T, fr, rfl, _, hc⟩ | ⟨a, cap, rfl, rfl, rfl⟩ | ⟨s, rfl, rfl, rfl, rfl⟩ <;> rfl
theorem cut_take {i n m : Nat} {l r : List Value} (hc : cut i n l = some r) (hm : m ≤ n) : cut i m l = some (r.take m) := by
  have hs := cut_spec hc
  have key : ∀ (i m : Nat) (l : List Value), i + m ≤ l.length → cut i m l = some ((l.drop i).take m) := by
    intro i
    induction i with
    | zero =>
      intro m
      induction m with
      | zero => intro l _; cases l <;> simp [cut]
      | succ m ih =>
        intro l hl
        cases l with
        | nil => simp at hl
        | cons a l => simp only [cut]; rw [ih l (by simp at hl; omega)]; simp
    | succ i ih =>
      intro m l hl
      cases l with
      | nil => simp at hl
      | cons a l => simp only [cut]; rw [ih m l (by simp at hl; omega)]; simp
  have hlen : m = 0 ∨ i + m ≤ l.length := by
    rcases Nat.eq_zero_or_pos m with h0 | h0
    · exact .inl h0
    · right
      have h1 := congrArg List.length hs.1
      rw [List.length_take, List.length_drop, hs.2] at h1
      omega
  rcases hlen with rfl | hl
  · have : cut i 0 l = some [] := by
      have : ∀ (i n : Nat) (l r : List Value), cut i n l = some r → cut i 0 l = some [] := by
        intro i
        induction i with
        | zero => intro n l r _; cases l <;> simp [cut]
        | succ i ih => intro n l r hc; cases l with
          | nil => cases n <;> simp [cut] at hc ⊢
          | cons a l => simp only [cut] at hc ⊢; exact ih n l r hc
      exact this i n l r hc
    rw [this]; simp
  · rw [key i m l hl, ← hs.1, List.take_take, Nat.min_eq_left hm]
theorem Src.cells (s : Src h L size v n us) (hs : St h L w) {m : Nat} (hm : m ≤ n) : (Builtin.firstCells size m v).run P w = .ok ⟨us.take (m * size)⟩ w := by
  rcases s with ⟨b, off, cap, cs, T, fr, rfl, hk, hc⟩ | ⟨a, cap, rfl, rfl, rfl⟩ | ⟨s, rfl, rfl, rfl, rfl⟩
  · simp only [Builtin.firstCells]
    exact run_loadCells (hs.kn hk) (cut_take hc (Nat.mul_le_mul_right _ hm))
  · have : m = 0 := by omega
    subst this
    cases a with
    | none => simp [Builtin.firstCells]
    | some a => simp [Builtin.firstCells, loadCells, loadCellsFrom]
  · simp only [Builtin.firstCells, Sem.run_pure]
    congr 1
    rw [← Array.toList_inj]
    simp [ByteArray.data_extract]
    rfl
theorem Src.le {h' : Heap} (s : Src h L size v n us) (hl : Heap.le h h') : Src h' L size v n us := by
  rcases s with ⟨b, off, cap, cs, T, fr, rfl, hk, hc⟩ | s | s
  · exact .inl ⟨b, off, cap, cs, T, fr, rfl, hk.elim (fun x => .inl (hl _ _ x)) .inr, hc⟩
  · exact .inr (.inl s)
  · exact .inr (.inr s)
theorem Src.per {b off cap : Nat} {cs : List Value} {T : TypeId} {fr : Nat × Nat} (hb : h b = some (.cells ⟨cs⟩ T fr)) (hc : cut off (n * size) cs = some us) : Src h L size (.slice (some ⟨b, off, none⟩) n cap) n us := .inl ⟨b, off, cap, cs, T, fr, rfl, .inl hb, hc⟩
theorem Src.own {b off cap : Nat} {cs : List Value} {T : TypeId} {fr : Nat × Nat} (hb : (b, Obj.cells ⟨cs⟩ T fr) ∈ L) (hc : cut off (n * size) cs = some us) : Src h L size (.slice (some ⟨b, off, none⟩) n cap) n us := .inl ⟨b, off, cap, cs, T, fr, rfl, .inr hb, hc⟩
theorem Src.nil {cap : Nat} : Src h L size (.slice none 0 cap) 0 [] := .inr (.inl ⟨none, cap, rfl, rfl, rfl⟩)
theorem Src.str {s : ByteArray} : Src h L 1 (.string s) s.size (s.data.toList.map byteV) := .inr (.inr ⟨s, rfl, rfl, rfl, rfl⟩)
end

section
variable {C : Cx} {R : Pst} {k : List K} {e : Env} {ds : List Deferred} {h : Heap} {L : Owned} {ops : Array Oper} {l : List Oper} {Q : Pst}
variable {d : Option Tmp} {ty : TypeId} {pos : String} {af : Array Edge} {g : Option (Nat × Bool)} {x y : Operand}

/-- copy into a block of one's own -/
theorem op1_copy {A B : Owned} {t t2 et T : TypeId} {size b off dl dc n : Nat} {v : Value} {us cs cs' : List Value} (hu : Und C.P t (.slice et)) (hz : Siz C.P et size) (hx : ev e x = some (.slice (some ⟨b, off, none⟩) dl dc)) (hy : ev e y = some v) (hsrc : Src h (A ++ (b, .cells ⟨cs⟩ T (0, 0)) :: B) size v n us)
    (hs : spl off (us.take (min n dl * size)) cs = some cs') (ho : (us.take (min n dl * size)).all Value.oneCell' = true) :
    Op1 C ⟨d, .call ⟨.builtin .copy, #[x, y], #[t, t2]⟩, ty, pos, af, g⟩ e h (A ++ (b, .cells ⟨cs⟩ T (0, 0)) :: B) (fun v' h' L' => v' = .int .i64 ((min n dl : Nat) : Int) ∧ h' = h ∧ L' = A ++ (b, .cells ⟨cs'⟩ T (0, 0)) :: B) := by
  intro ds a w next Q he hst H
  refine ⟨fun _ _ => trivial, ?_⟩
  obtain ⟨w', hr, hw, hoth, ho1, ho2⟩ := run_storeCells (P := C.P) (us.take (min n dl * size)) off 0 cs cs' w (hst.own (b, .cells ⟨cs⟩ T (0, 0)) (by simp)) (by simpa using hs) ho
  have hfc := hsrc.cells (P := C.P) hst (Nat.min_le_left n dl)
  have hcp : (Builtin.copy_ #[t, t2] ty #[.slice (some ⟨b, off, none⟩) dl dc, v]).run C.P w = .ok (.int .i64 ((min n dl : Nat) : Int)) w' := by
    have e1 : Nat.min n dl = min n dl := rfl
    simp only [Builtin.copy_, List.getElem?_toArray, List.getElem?_cons_zero, List.getElem?_cons_succ, Sem.run_bind, hu.run, hz.run, hsrc.lenOf, Result.andThen_ok, Sem.run_pure, e1, hfc, hr]
    rfl
  have hrun : (execOp a.eval ⟨d, .call ⟨.builtin .copy, #[x, y], #[t, t2]⟩, ty, pos, af, g⟩).run C.P w = .ok (.value (.int .i64 ((min n dl : Nat) : Int))) w' := by
    unfold execOp
    simp [he.eval hx, he.eval hy, resolve, invoke, builtin, hcp]
  rw [Oper.semAt_eq _ _ _ (by simp), hrun]
  exact H _ h _ w' ⟨rfl, rfl, rfl⟩ (hst.set _ hw hoth ho1 ho2)
theorem WL_copy {A B : Owned} {t t2 et T : TypeId} {size b off dl dc n : Nat} {v : Value} {us cs cs' : List Value} (hu : Und C.P t (.slice et)) (hz : Siz C.P et size) (hx : ev e x = some (.slice (some ⟨b, off, none⟩) dl dc)) (hy : ev e y = some v) (hsrc : Src h (A ++ (b, .cells ⟨cs⟩ T (0, 0)) :: B) size v n us)
    (hs : spl off (us.take (min n dl * size)) cs = some cs') (ho : (us.take (min n dl * size)).all Value.oneCell' = true) (hd : dstOk d C.n = true)
    (H : WL C ops l Q (put d (.int .i64 ((min n dl : Nat) : Int)) e) ds h (A ++ (b, .cells ⟨cs'⟩ T (0, 0)) :: B)) : WL C ops (⟨d, .call ⟨.builtin .copy, #[x, y], #[t, t2]⟩, ty, pos, af, none⟩ :: l) Q e ds h (A ++ (b, .cells ⟨cs⟩ T (0, 0)) :: B) :=
  WL_op (op1_copy hu hz hx hy hsrc hs ho) rfl hd (by rintro v' h' L' ⟨rfl, rfl, rfl⟩; exact H)
end

/-! append -/
def zlist (zs : List Value) (n : Nat) : List Value := (List.range (n * zs.length)).map fun i => zs[i % zs.length]!
theorem zlist_len {zs : List Value} {n : Nat} : (zlist zs n).length = n * zs.length := by simp [zlist]
theorem zlist_one {zs : List Value} {n : Nat} (h : zs.all Value.oneCell' = true) : (zlist zs n).all Value.oneCell' = true := by
  rw [List.all_eq_true] at h ⊢
  intro x hx
  simp only [zlist, List.mem_map, List.mem_range] at hx
  obtain ⟨i, hi, rfl⟩ := hx
  have h0 : 0 < zs.length := by
    rcases Nat.eq_zero_or_pos zs.length with h0 | h0
    · rw [h0] at hi; simp at hi
    · exact h0
  have h1 : i % zs.length < zs.length := Nat.mod_lt _ h0
  rw [getElem!_pos zs _ h1]
  exact h _ (List.getElem_mem h1)
theorem zeroCells_list (zs : List Value) (n : Nat) : Builtin.zeroCells ⟨zs⟩ n = ⟨zlist zs n⟩ := by
  simp [Builtin.zeroCells, zlist, ← Array.toList_inj, List.range_eq_range']

section
variable {P : Program} {h : Heap} {L : Owned} {w : World} {size bytes n : Nat} {t tx ty et : TypeId} {dx : TypeDesc}
theorem run_append_grow2 {z : Value} {zs olds us : List Value} {base : Option Addr} {slen scap : Nat} {x : Value} (hu : Und P t (.slice et)) (htx : Und P tx dx) (hdx : dx = .string ∨ ∃ e', dx = .slice e') (hz : Siz P et size) (hby : Byt P et bytes) (hb0 : bytes ≠ 0) (hzer : Zer P et z) (hzc : z.cells = ⟨zs⟩)
    (hsrc : Src h L size (.slice base slen scap) slen olds) (hx : Src h L size x n us) (hst : ∀ d, St h L { w with drawn := d }) (hg : scap < slen + n) (hfit : (slen + n) * bytes ≤ 140737488355328) :
    ∃ cap d, slen + n ≤ cap ∧ cap < 9223372036854775808 ∧ (Builtin.append_ #[t, tx] ty #[.slice base slen scap, x]).run P w = .ok (.slice (some ⟨w.heap.size, 0, none⟩) (slen + n) cap) { w with heap := w.heap.push (.cells ⟨olds ++ us ++ zlist zs (cap - (slen + n))⟩ et (0, 0)), drawn := d } := by
  have hn : ¬ (slen + n ≤ scap) := by omega
  have hneed : slen + n ≤ (slen + n) * bytes := Nat.le_mul_of_pos_right _ (by omega)
  have hfit2 := growslice_fits (need := slen + n) (old := scap) (bytes := bytes) hg hfit
  obtain ⟨i, hi, hib, his, hiz⟩ : ∃ i, P.info? et = some i ∧ i.bytes = bytes ∧ i.size = size ∧ i.zero = some z := by
    unfold Byt at hby; unfold Siz at hz; unfold Zer at hzer
    cases hi : P.info? et with
    | none => rw [hi] at hby; cases hby
    | some i =>
      rw [hi] at hby hz hzer
      simp at hby hz hzer
      exact ⟨i, rfl, hby, hz, hzer⟩
  subst hib his
  refine ⟨(Question.appendCap (slen + n) scap et).cut (w.tape w.drawn (.appendCap (slen + n) scap et)), w.drawn + 1, ?_, ?_, ?_⟩
  · simp only [Question.cut]; omega
  · simp only [Question.cut]
    have := Nat.mod_lt (w.tape w.drawn (.appendCap (slen + n) scap et)) (show 0 < 2 ^ 63 - (slen + n) by omega)
    omega
  · have f1 := hsrc.cells (P := P) (w := w.drew) (hst (w.drawn + 1)) (Nat.le_refl slen)
    have f2 := hx.cells (P := P) (w := w.drew) (hst (w.drawn + 1)) (Nat.le_refl n)
    rw [List.take_of_length_le (by rw [hsrc.len]; exact Nat.le_refl _)] at f1
    rw [List.take_of_length_le (by rw [hx.len]; exact Nat.le_refl _)] at f2
    have h63 : ¬ (9223372036854775807 < ((slen : Int) + (n : Int))) := by omega
    have h48 : ¬ (281474976710656 < Builtin.nextslicecap (slen + n) scap * i.bytes) := by omega
    have hl := hx.lenOf
    rcases hdx with rfl | ⟨e', rfl⟩
    all_goals
      simp [Builtin.append_, hu.run, htx.run, sizeOf, typeInfo, zeroValue, hi, hiz, hl, hn, h63, h48, Question.forced, f1, f2, newRow, hzc, zeroCells_list]
      rfl
theorem infos {z : Value} (hz : Siz P et size) (hby : Byt P et bytes) (hzer : Zer P et z) : ∃ i, P.info? et = some i ∧ i.bytes = bytes ∧ i.size = size ∧ i.zero = some z := by
  unfold Byt at hby; unfold Siz at hz; unfold Zer at hzer
  cases hi : P.info? et with
  | none => rw [hi] at hby; cases hby
  | some i =>
    rw [hi] at hby hz hzer
    simp at hby hz hzer
    exact ⟨i, rfl, hby, hz, hzer⟩
theorem run_append_room2 {us : List Value} {b off slen scap : Nat} {x : Value} {w' : World} (hu : Und P t (.slice et)) (htx : Und P tx dx) (hdx : dx = .string ∨ ∃ e', dx = .slice e') (hz : Siz P et size)
    (hx : Src h L size x n us) (hst : St h L w) (hg : slen + n ≤ scap) (hw : (storeCells ⟨b, off + slen * size, none⟩ us 0).run P w = .ok () w') :
    (Builtin.append_ #[t, tx] ty #[.slice (some ⟨b, off, none⟩) slen scap, x]).run P w = .ok (.slice (some ⟨b, off, none⟩) (slen + n) scap) w' := by
  have f2 := hx.cells (P := P) (w := w) hst (Nat.le_refl n)
  rw [List.take_of_length_le (by rw [hx.len]; exact Nat.le_refl _)] at f2
  have hl := hx.lenOf
  have hs : (sizeOf et).run P w = .ok size w := hz.run w
  rcases hdx with rfl | ⟨e', rfl⟩
  all_goals
    simp only [Builtin.append_, List.getElem?_toArray, List.getElem?_cons_zero, List.getElem?_cons_succ, Sem.run_bind, hu.run, htx.run, hs, hl, Result.andThen_ok, Sem.run_pure, Bool.false_eq_true, if_false, hg, if_true, Bool.not_false, f2]
    rw [show (⟨b, off, none⟩ : Addr).add (slen * size) = ⟨b, off + slen * size, none⟩ from add_none _ _ _]
    simp only [hw, Result.andThen_ok]
theorem run_append_none0 {us : List Value} {x : Value} (hu : Und P t (.slice et)) (htx : Und P tx dx) (hdx : dx = .string ∨ ∃ e', dx = .slice e') (hz : Siz P et size)
    (hx : Src h L size x 0 us) (hst : St h L w) :
    (Builtin.append_ #[t, tx] ty #[.slice none 0 0, x]).run P w = .ok (.slice none 0 0) w := by
  have f2 := hx.cells (P := P) (w := w) hst (Nat.le_refl 0)
  have hl := hx.lenOf
  have hs : (sizeOf et).run P w = .ok size w := hz.run w
  rcases hdx with rfl | ⟨e', rfl⟩
  all_goals
    simp only [Builtin.append_, List.getElem?_toArray, List.getElem?_cons_zero, List.getElem?_cons_succ, Sem.run_bind, hu.run, htx.run, hs, hl, Result.andThen_ok, Sem.run_pure, Bool.false_eq_true, if_false, Nat.add_zero, Nat.le_refl, if_true, Bool.not_false, f2]
end

/-- a slice of one's own that grows: so many elements, these cells, in a block of its own (or none yet) -/
def OwnS (et : TypeId) (size : Nat) (v : Value) (n : Nat) (xs : List Value) (L1 : Owned) : Prop :=
  (v = .slice none 0 0 ∧ n = 0 ∧ xs = [] ∧ L1 = []) ∨
  ∃ b cap pad, v = .slice (some ⟨b, 0, none⟩) n cap ∧ xs.length = n * size ∧ xs.length + pad.length = cap * size ∧ n ≤ cap ∧ cap < 9223372036854775808 ∧ L1 = [(b, .cells ⟨xs ++ pad⟩ et (0, 0))]
theorem OwnS.nil {et : TypeId} {size : Nat} : OwnS et size (.slice none 0 0) 0 [] [] := .inl ⟨rfl, rfl, rfl, rfl⟩
theorem OwnS.full {et : TypeId} {size b n : Nat} {xs : List Value} (hl : xs.length = n * size) (hn : n < 9223372036854775808) : OwnS et size (.slice (some ⟨b, 0, none⟩) n n) n xs [(b, .cells ⟨xs⟩ et (0, 0))] :=
  .inr ⟨b, n, [], rfl, hl, by simpa using hl, Nat.le_refl _, hn, by simp⟩
section
variable {C : Cx} {R : Pst} {k : List K} {e : Env} {ds : List Deferred} {h : Heap} {L : Owned} {ops : Array Oper} {l : List Oper} {Q : Pst}
variable {d : Option Tmp} {ty : TypeId} {pos : String} {af : Array Edge} {g : Option (Nat × Bool)} {x y : Operand}
theorem op1_append {L1 Lf : Owned} {t tx et : TypeId} {dx : TypeDesc} {size bytes n m : Nat} {sv xv z : Value} {xs us zs : List Value} (hu : Und C.P t (.slice et)) (htx : Und C.P tx dx) (hdx : dx = .string ∨ ∃ e', dx = .slice e') (hz : Siz C.P et size) (hby : Byt C.P et bytes) (hb0 : bytes ≠ 0) (hzer : Zer C.P et z) (hzc : z.cells = ⟨zs⟩) (hzl : zs.length = size)
    (hx : ev e x = some sv) (hy : ev e y = some xv) (hs : OwnS et size sv n xs L1) (hsrc : Src h (L1 ++ Lf) size xv m us) (ho : us.all Value.oneCell' = true) (hfit : (n + m) * bytes ≤ 140737488355328) :
    Op1 C ⟨d, .call ⟨.builtin .append, #[x, y], #[t, tx]⟩, ty, pos, af, g⟩ e h (L1 ++ Lf) (fun v' h' L' => ∃ L2, h' = h ∧ L' = L2 ++ Lf ∧ OwnS et size v' (n + m) (xs ++ us) L2) := by
  intro ds a w next Q he hst H
  refine ⟨fun _ _ => trivial, ?_⟩
  have key : ∃ v' w' L2, (Builtin.append_ #[t, tx] ty #[sv, xv]).run C.P w = .ok v' w' ∧ St h (L2 ++ Lf) w' ∧ OwnS et size v' (n + m) (xs ++ us) L2 := by
    have hm63 : n + m ≤ (n + m) * bytes := Nat.le_mul_of_pos_right _ (by omega)
    have grow : ∀ {base : Option Addr} {scap : Nat}, sv = .slice base n scap → Src h (L1 ++ Lf) size (.slice base n scap) n xs → scap < n + m → ∃ v' w' L2, (Builtin.append_ #[t, tx] ty #[sv, xv]).run C.P w = .ok v' w' ∧ St h (L2 ++ Lf) w' ∧ OwnS et size v' (n + m) (xs ++ us) L2 := by
      rintro base scap rfl hold hg
      obtain ⟨cap, dd, h1, h2, hr⟩ := run_append_grow2 (P := C.P) (w := w) (ty := ty) hu htx hdx hz hby hb0 hzer hzc hold hsrc (fun dd => hst.drew dd) hg hfit
      refine ⟨_, _, [(w.heap.size, .cells ⟨xs ++ us ++ zlist zs (cap - (n + m))⟩ et (0, 0))], hr, ?_, ?_⟩
      · refine St.drew (w := { w with heap := w.heap.push (.cells ⟨xs ++ us ++ zlist zs (cap - (n + m))⟩ et (0, 0)) }) ?_ dd
        refine (hst.alloc _).sub ?_
        exact List.Sublist.cons_cons _ (List.sublist_append_right L1 Lf)
      · refine .inr ⟨_, cap, _, rfl, ?_, ?_, h1, h2, rfl⟩
        · rw [List.length_append, hold.len, hsrc.len, Nat.add_mul]
        · rw [List.length_append, hold.len, hsrc.len, zlist_len, hzl, ← Nat.add_mul, ← Nat.add_mul]
          congr 1; omega
    rcases hs with ⟨rfl, rfl, rfl, rfl⟩ | ⟨b, cap, pad, rfl, hxl, hpl, hnc, hc63, rfl⟩
    · rcases Nat.eq_zero_or_pos m with rfl | hm
      · have hus : us = [] := List.length_eq_zero_iff.1 (by rw [hsrc.len]; simp)
        subst hus
        exact ⟨_, _, [], run_append_none0 hu htx hdx hz hsrc hst, hst, OwnS.nil⟩
      · exact grow rfl Src.nil (by omega)
    · rcases Nat.lt_or_ge cap (n + m) with hg | hg
      · refine grow rfl (Src.own (b := b) (cs := xs ++ pad) (T := et) (fr := (0, 0)) (by simp) ?_) hg
        have hcut : cut 0 (n * size) (xs ++ pad) = some ((xs ++ pad).take (n * size)) := by
          have hfull : cut 0 (xs ++ pad).length (xs ++ pad) = some (xs ++ pad) := by
            have : ∀ l : List Value, cut 0 l.length l = some l := by
              intro l; induction l with
              | nil => rfl
              | cons a l ih => simp only [List.length_cons, cut, ih]
            exact this _
          exact cut_take hfull (by rw [List.length_append, hxl]; omega)
        rw [hcut, ← hxl, List.take_left]
      · have hpm : m * size ≤ pad.length := by
          have h1 : (n + m) * size ≤ cap * size := Nat.mul_le_mul_right _ hg
          rw [Nat.add_mul] at h1
          omega
        have hspl : spl (n * size) us (xs ++ pad) = some (xs ++ us ++ pad.drop (m * size)) := by
          have := spl_app xs (pad.take (m * size)) (pad.drop (m * size)) us (by rw [hsrc.len, List.length_take]; omega)
          rw [hxl] at this
          rw [List.append_assoc, List.take_append_drop] at this
          exact this
        obtain ⟨w', hr, hw, hoth, ho1, ho2⟩ := run_storeCells (P := C.P) us (0 + n * size) 0 (xs ++ pad) _ w (hst.own (b, .cells ⟨xs ++ pad⟩ et (0, 0)) (by simp)) (by simpa using hspl) ho
        refine ⟨_, w', [(b, .cells ⟨xs ++ us ++ pad.drop (m * size)⟩ et (0, 0))], run_append_room2 hu htx hdx hz hsrc hst hg hr, ?_, ?_⟩
        · rw [List.append_assoc]; exact St.set (A := []) (B := Lf) hst _ hw hoth ho1 ho2
        · refine .inr ⟨b, cap, _, rfl, ?_, ?_, hg, hc63, rfl⟩
          · rw [List.length_append, hxl, hsrc.len, Nat.add_mul]
          · rw [List.length_append, List.length_drop, hsrc.len]; omega
  obtain ⟨v', w', L2, hr, hs', hown⟩ := key
  have hrun : (execOp a.eval ⟨d, .call ⟨.builtin .append, #[x, y], #[t, tx]⟩, ty, pos, af, g⟩).run C.P w = .ok (.value v') w' := by
    unfold execOp
    simp [he.eval hx, he.eval hy, resolve, invoke, builtin, hr]
  rw [Oper.semAt_eq _ _ _ (by simp), hrun]
  exact H _ h _ w' ⟨L2, rfl, rfl, hown⟩ hs'
theorem WL_append {L1 Lf : Owned} {t tx et : TypeId} {dx : TypeDesc} {size bytes n m : Nat} {sv xv z : Value} {xs us zs : List Value} (hu : Und C.P t (.slice et)) (htx : Und C.P tx dx) (hdx : dx = .string ∨ ∃ e', dx = .slice e') (hz : Siz C.P et size) (hby : Byt C.P et bytes) (hb0 : bytes ≠ 0) (hzer : Zer C.P et z) (hzc : z.cells = ⟨zs⟩) (hzl : zs.length = size)
    (hx : ev e x = some sv) (hy : ev e y = some xv) (hs : OwnS et size sv n xs L1) (hsrc : Src h (L1 ++ Lf) size xv m us) (ho : us.all Value.oneCell' = true) (hfit : (n + m) * bytes ≤ 140737488355328) (hd : dstOk d C.n = true)
    (H : ∀ v' L2, OwnS et size v' (n + m) (xs ++ us) L2 → WL C ops l Q (put d v' e) ds h (L2 ++ Lf)) : WL C ops (⟨d, .call ⟨.builtin .append, #[x, y], #[t, tx]⟩, ty, pos, af, none⟩ :: l) Q e ds h (L1 ++ Lf) :=
  WL_op (op1_append hu htx hdx hz hby hb0 hzer hzc hzl hx hy hs hsrc ho hfit) rfl hd (by rintro v' h' L' ⟨L2, rfl, rfl, ho⟩; exact H v' L2 ho)
/-- make -/
theorem WL_makeSlice {t et : TypeId} {z : Value} {zs : List Value} {bytes n c : Nat} {ly cy : IntKind} (hu : Und C.P t (.slice et)) (hby : Byt C.P et bytes) (hz : Siz C.P et zs.length) (hzer : Zer C.P et z) (hzc : z.cells = ⟨zs⟩) (hx : ev e x = some (.int ly (n : Int))) (hy : ev e y = some (.int cy (c : Int))) (hnc : n ≤ c) (hb : c * bytes ≤ 140737488355328) (hc : c < 9223372036854775808) (hd : dstOk d C.n = true)
    (H : ∀ b, WL C ops l Q (put d (.slice (some ⟨b, 0, none⟩) n c) e) ds h ((b, .cells ⟨zlist zs c⟩ et (0, 0)) :: L)) : WL C ops (⟨d, .makeSlice t x y, ty, pos, af, none⟩ :: l) Q e ds h L := by
  refine WL_new (f := fun b => .slice (some ⟨b, 0, none⟩) n c) (ob := .cells ⟨zlist zs c⟩ et (0, 0)) (op1_new fun ρ w hρ _ => ⟨w.drawn, ?_⟩) rfl hd H
  obtain ⟨i, hi, hib, his, hiz⟩ := infos hz hby hzer
  have w1 : IntKind.i64.wrap (n : Int) = (n : Int) := wrap_i64 (by omega) (by omega)
  have w2 : IntKind.i64.wrap (c : Int) = (c : Int) := wrap_i64 (by omega) (by omega)
  have h3 : ¬ ((bytes : Int) * (c : Int) > 2 ^ 48) := by
    have : (bytes : Int) * (c : Int) = ((c * bytes : Nat) : Int) := by simp [Int.mul_comm]
    rw [this]; omega
  have h3' : ¬ (281474976710656 < (bytes : Int) * (c : Int)) := by simpa using h3
  have h4 : ¬ ((c : Int) < 0) := by omega
  have h5 : ¬ ((n : Int) < 0) := by omega
  have h6 : ¬ ((c : Int) < (n : Int)) := by omega
  have h7 : ¬ (c < n) := by omega
  have hzl : zlist zs c = (List.range (c * zs.length)).map (fun x => zs[x % zs.length]?.getD default) := by
    unfold zlist
    refine List.map_congr_left fun j hj => ?_
    rw [List.getElem!_eq_getElem?_getD]
  unfold execOp
  simp [hρ _ _ hx, hρ _ _ hy, Instr.makeSlice, hu.run, asInt, asIntOf, w1, w2, typeInfo, hi, hib, h3', h4, h5, h6, h7, his, sizeOf, zeroValue, hiz, hzc, newRow]
  by_cases h00 : c * zs.length = 0
  · have hz1 : ∀ f : Nat → Value, Array.map f (Array.range 0) = ⟨[]⟩ := fun f => by simp [← Array.toList_inj, Array.toList_range]
    simp [hzl, h00, hz1]
  · have hz2 : (Array.map (fun x => zs[x % zs.length]?.getD default) (Array.range (c * zs.length))) = ⟨zlist zs c⟩ := by
      rw [hzl]; simp [← Array.toList_inj, List.range_eq_range']
    rw [if_neg h00]
    simp [hz2]
theorem St.congr {w w' : World} (s : St h L w) (hw : ∀ b : Nat, w'.heap[b]? = w.heap[b]?) (ho : w'.os = w.os) (hu : w'.output = w.output) : St h L w' :=
  ⟨fun b o hb => by rw [hw]; exact s.per b o hb, fun p hp => by rw [hw]; exact s.own p hp, s.sep, s.nd, ho.trans s.os, hu.trans s.out⟩
/-- bytes out of a string -/
theorem op1_tobytes {s t et : TypeId} {du : TypeDesc} {bs : ByteArray} (hs : Und C.P s du) (hu : Und C.P t (.slice et)) (hue : Und C.P et (.int .u8)) (hx : ev e x = some (.string bs)) :
    Op1 C ⟨d, .convert s t x, ty, pos, af, g⟩ e h L (fun v h' L' => ∃ b cap pad fr, bs.size ≤ cap ∧ v = .slice (some ⟨b, 0, none⟩) bs.size cap ∧ h' = h ∧ L' = (b, .cells ⟨bs.data.toList.map byteV ++ pad⟩ et fr) :: L) := by
  intro ds a w next Q he hst H
  refine ⟨fun _ _ => trivial, ?_⟩
  have hr := Lib.run_convert_string_bytes w s t et bs hs hu hue
  have hrun : (execOp a.eval ⟨d, .convert s t x, ty, pos, af, g⟩).run C.P w = .ok (.value (.slice (some ⟨w.heap.size, 0, none⟩) bs.size (grownCap w bs.size 0 et))) (Lib.bytesWorld w et bs) := by
    unfold execOp
    simp only [he.eval hx, Sem.run_bind, hr, Result.andThen_ok, Sem.run_pure]
  rw [Oper.semAt_eq _ _ _ (by simp), hrun]
  have hob : ∃ pad, Lib.bytesCells w et bs = ⟨bs.data.toList.map byteV ++ pad⟩ := by
    refine ⟨List.replicate (grownCap w bs.size 0 et - bs.size) (.int .u8 0), ?_⟩
    rw [← Array.toList_inj]
    unfold Lib.bytesCells
    rw [Array.toList_append, Array.toList_map, Array.toList_replicate]
    rfl
  obtain ⟨pad, hpad⟩ := hob
  refine H _ h ((w.heap.size, .cells ⟨bs.data.toList.map byteV ++ pad⟩ et ((Lib.bytesCells w et bs).size, (Lib.bytesCells w et bs).size + 1)) :: L) _ ⟨w.heap.size, _, pad, _, by simp only [grownCap, Question.cut]; omega, rfl, rfl, rfl⟩ ?_
  refine (hst.alloc _).congr (fun b => ?_) (by first | rfl | simp [Lib.bytesWorld]) (by first | rfl | simp [Lib.bytesWorld])
  rcases Nat.lt_trichotomy b w.heap.size with hb | rfl | hb
  · rw [Lib.bytesWorld_at_old w et bs b hb, Array.getElem?_push, if_neg (Nat.ne_of_lt hb)]
  · rw [Lib.bytesWorld_at_new w et bs, Array.getElem?_push, if_pos rfl, hpad]
  · have h1 : (Lib.bytesWorld w et bs).heap[b]? = none := Array.getElem?_eq_none (by rw [Lib.bytesWorld_size]; omega)
    rw [h1, Array.getElem?_push, if_neg (by omega), Array.getElem?_eq_none (by omega)]
theorem WL_tobytes {s t et : TypeId} {du : TypeDesc} {bs : ByteArray} (hs : Und C.P s du) (hu : Und C.P t (.slice et)) (hue : Und C.P et (.int .u8)) (hx : ev e x = some (.string bs)) (hd : dstOk d C.n = true)
    (H : ∀ b cap pad fr h', bs.size ≤ cap → Heap.le h h' → h' b = some (.cells ⟨bs.data.toList.map byteV ++ pad⟩ et fr) → WL C ops l Q (put d (.slice (some ⟨b, 0, none⟩) bs.size cap) e) ds h' L) : WL C ops (⟨d, .convert s t x, ty, pos, af, none⟩ :: l) Q e ds h L :=
  WL_op (op1_tobytes hs hu hue hx) rfl hd (by rintro v h' L' ⟨b, cap, pad, fr, hc, rfl, rfl, rfl⟩; exact WL_freeze fun h2 hl hb => H b cap pad fr h2 hc hl hb)
/-- append(s, make(..)...) upon nothing -/
theorem WL_appendz {t tx et : TypeId} {kx : IntKind} {size bytes m : Nat} {z : Value} {zs : List Value} (hu : Und C.P t (.slice et)) (htx : Und C.P tx (.int kx)) (hz : Siz C.P et size) (hby : Byt C.P et bytes) (hb0 : bytes ≠ 0) (hzer : Zer C.P et z) (hzc : z.cells = ⟨zs⟩) (hzl : zs.length = size) (hs0 : size ≠ 0)
    (hx : ev e x = some (.slice none 0 0)) (hy : ev e y = some (.int kx (m : Int))) (hm : m ≠ 0) (hfit : m * bytes ≤ 140737488355328) (hd : dstOk d C.n = true)
    (H : ∀ v' L2, OwnS et size v' m (zlist zs m) L2 → WL C ops l Q (put d v' e) ds h (L2 ++ L)) : WL C ops (⟨d, .call ⟨.builtin .append, #[x, y], #[t, tx]⟩, ty, pos, af, none⟩ :: l) Q e ds h L := by
  refine WL_op (G := fun v' h' L' => ∃ L2, h' = h ∧ L' = L2 ++ L ∧ OwnS et size v' m (zlist zs m) L2) ?_ rfl hd (by rintro v' h' L' ⟨L2, rfl, rfl, ho⟩; exact H v' L2 ho)
  intro ds a w next Q he hst H
  refine ⟨fun _ _ => trivial, ?_⟩
  obtain ⟨i, hi, hib, his, hiz⟩ := infos hz hby hzer
  have hm1 : m ≤ m * bytes := Nat.le_mul_of_pos_right _ (by omega)
  have w1 : IntKind.i64.wrap (m : Int) = (m : Int) := wrap_i64 (by omega) (by omega)
  have h3 : ¬ (281474976710656 < (m : Int) * (bytes : Int)) := by
    have : (m : Int) * (bytes : Int) = ((m * bytes : Nat) : Int) := by simp
    rw [this]; omega
  have h4 : ¬ ((m : Int) < 0) := by omega
  have h5 : ¬ (9223372036854775807 < (m : Int)) := by omega
  have h6 : ¬ (281474976710656 < Builtin.nextslicecap m 0 * bytes) := by rw [nextslicecap_zero (by omega)]; omega
  have hcap : ∃ cap, cap = (Question.appendCap m 0 et).cut (w.tape w.drawn (.appendCap m 0 et)) ∧ m ≤ cap ∧ cap < 9223372036854775808 := by
    refine ⟨_, rfl, ?_, ?_⟩
    · simp only [Question.cut]; omega
    · simp only [Question.cut]
      have := Nat.mod_lt (w.tape w.drawn (.appendCap m 0 et)) (show 0 < 2 ^ 63 - m by omega)
      omega
  obtain ⟨cap, hcap, hc1, hc2⟩ := hcap
  have hr : (Builtin.append_ #[t, tx] ty #[.slice none 0 0, .int kx (m : Int)]).run C.P w = .ok (.slice (some ⟨w.heap.size, 0, none⟩) m cap) { w with heap := w.heap.push (.cells ⟨zlist zs m ++ zlist zs (cap - m)⟩ et (0, 0)), drawn := w.drawn + 1 } := by
    rw [hcap]
    simp [Builtin.append_, hu.run, htx.run, sizeOf, typeInfo, zeroValue, hi, hib, his, hiz, hm, hs0, w1, h3, h4, h5, h6, asInt, asIntOf, Question.forced, newRow, hzc, zeroCells_list, Builtin.firstCells]
    rw [if_neg (Nat.mul_ne_zero hm hs0)]
    rfl
  have hrun : (execOp a.eval ⟨d, .call ⟨.builtin .append, #[x, y], #[t, tx]⟩, ty, pos, af, none⟩).run C.P w = .ok (.value (.slice (some ⟨w.heap.size, 0, none⟩) m cap)) { w with heap := w.heap.push (.cells ⟨zlist zs m ++ zlist zs (cap - m)⟩ et (0, 0)), drawn := w.drawn + 1 } := by
    unfold execOp
    simp [he.eval hx, he.eval hy, resolve, invoke, builtin, hr]
  rw [Oper.semAt_eq _ _ _ (by simp), hrun]
  refine H _ h _ _ ⟨[(w.heap.size, .cells ⟨zlist zs m ++ zlist zs (cap - m)⟩ et (0, 0))], rfl, rfl, .inr ⟨_, cap, _, rfl, ?_, ?_, hc1, hc2, rfl⟩⟩ ((hst.alloc _).drew _)
  · rw [zlist_len, hzl]
  · rw [zlist_len, zlist_len, hzl, ← Nat.add_mul]; congr 1; omega
end
end Go.Proofs.Ch
