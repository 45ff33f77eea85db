/-
  The abstract machine: copies, conversions, maps, assertions.
-/
import Derived.Test.YtglnkngifepmhaaGreatUi
set_option linter.unusedVariables false
set_option linter.unusedSimpArgs false

namespace Go.Abs

section
variable {P : Program} {σ : Sg} {S : Sto} {w : World}

theorem acopy_ok {t u : TypeId} {x y : AV} {X Y : Value} {r : ORes} (h : Rel σ S w) (ha : acopy P S t x y = some r) (hx : VR σ x X) (hy : VR σ y Y) :
    ResOk σ S w (fun V w' => ∀ (ts : Array TypeId), ts[0]? = some t → (Builtin.copy_ ts u #[X, Y]).run P w = .ok V w') r := by
  unfold acopy at ha
  split at ha
  · rename_i e hu
    split at ha
    · rename_i k dn sn hk hdn hsn
      obtain ⟨_, hdl⟩ := alen_ok (P := P) (w := w) hdn hx
      obtain ⟨hslen, _⟩ := alen_ok (P := P) (w := w) hsn hy
      split at ha
      · simp at ha
      · rename_i new hnew
        obtain ⟨NEW, n1, n2, n3, _⟩ := afirst_ok (P := P) h hnew hy
        have n1w := n1 w rfl
        split at ha
        · cases hx
          simp at ha; subst ha
          have hd0 : (0 : Nat) = dn := hdl none 0 0 rfl
          subst hd0
          have hmin : Nat.min sn 0 = 0 := by simp
          rw [hmin] at n1w
          refine ⟨.int .i64 0, w, fun ts hts => ?_, .int _ _, Quiet.refl w⟩
          simp [Builtin.copy_, hts, run_underlying_of hu, hslen, run_sizeOf_of hk, n1w, goInt]
        · rename_i id g off len cap
          split at ha
          · rename_i g' m cs hget
            cases hc : (Nat.beq g g' && Nat.ble (off + Nat.min sn dn * k) m && new.all AV.isCell) with
            | false => simp only [hc, cond_false, reduceCtorEq] at ha
            | true =>
              simp only [hc, cond_true, Option.some.injEq] at ha
              subst ha
              simp only [Bool.and_eq_true, Nat.beq_eq, Nat.ble_eq] at hc
              obtain ⟨⟨rfl, hm⟩, hall⟩ := hc
              cases hx with
              | sl _ _ _ _ _ b base sz C hs hl hcap =>
                have hd0 : len = dn := hdl _ _ _ rfl
                subst hd0
                obtain ⟨w', e1, e2⟩ := stp_lay (P := P) (cs := new) (off := off) (o := base + off) h hget ⟨_, hs⟩ (by rw [n3]; exact hm) n2 hall rfl
                refine ⟨σ, .int .i64 (Nat.min sn len : Nat), w', fun ts hts => ?_, .int _ _, e2⟩
                simp [Builtin.copy_, hts, run_underlying_of hu, hslen, run_sizeOf_of hk, n1w, goInt, e1]
          · simp at ha
        · simp at ha
    · simp at ha
  · simp at ha

theorem modify_push {α : Type} (xs : Array α) (a : α) (f : α → α) : (xs.push a).modify xs.size f = xs.push (f a) := by
  apply Array.ext
  · simp
  · intro i h1 h2
    rw [Array.getElem_modify]
    by_cases hi : xs.size = i
    · subst hi; simp
    · rw [if_neg hi, Array.getElem_push_lt (by simp at h2; omega), Array.getElem_push_lt (by simp at h2; omega)]

theorem aconv_bytes_ok {e : TypeId} {b : List Nat} {bs : ByteArray} {id : Nat} {S' : Sto} (h : Rel σ S w) (hk : anew S (toBytes b) = some (id, S')) (hb : bs.data.toList.map (·.toNat) = b) :
    ∃ τ V w', (Conv.stringToBytes e bs).run P w = .ok V w' ∧ VR τ (.sl id 0 0 b.length (.room 1)) V ∧ Stp σ S w τ S' w' := by
  have hsz := str_size hb
  let cap := bs.size + (w.tape w.drawn (.appendCap bs.size 0 e)) % (2 ^ 63 - bs.size)
  let arr : Array Value := (bs.data.map fun b => Value.int .u8 b.toNat) ++ Array.replicate (cap - bs.size) (.int .u8 0)
  have harr : arr.size = cap := by
    have : (bs.data.map fun b => Value.int .u8 b.toNat).size = bs.size := by simp
    show ((bs.data.map fun b => Value.int .u8 b.toNat) ++ Array.replicate (cap - bs.size) (Value.int .u8 0)).size = cap
    rw [Array.size_append, this, Array.size_replicate]; omega
  have hvs : VRs σ (toBytes b) (bs.data.toList.map fun b => Value.int .u8 b.toNat) := by
    rw [← hb, toBytes, List.map_map]
    exact VRs.map _ _ _ fun x _ => .int _ _
  have hblen : (bs.data.toList.map fun b => Value.int .u8 b.toNat).length = bs.size := by rw [List.length_map, Array.length_toList]; rfl
  obtain ⟨τ, h1, h2⟩ := stp_new (w := w.drew) (arr := arr) e (cap, cap + 1) (h.world rfl) hk hvs (Nat.le_trans (Nat.le_of_eq hblen) (by rw [harr]; exact Nat.le_add_right _ _))
    (fun i V hV => by
      have hlt : i < (bs.data.toList.map fun b => Value.int .u8 b.toNat).length := by
        rcases Nat.lt_or_ge i (bs.data.toList.map fun b => Value.int .u8 b.toNat).length with h' | h'
        · exact h'
        · rw [List.getElem?_eq_none h'] at hV; cases hV
      show ((bs.data.map fun b => Value.int .u8 b.toNat) ++ Array.replicate (cap - bs.size) (Value.int .u8 0))[i]? = some V
      rw [Array.getElem?_append_left (by simpa using hlt), ← hV, ← Array.getElem?_toList, Array.toList_map])
    (fun o ho => by rw [harr] at ho; omega)
  refine ⟨τ, .slice (some ⟨w.heap.size, 0, none⟩) bs.size cap, _, ?_, ?_, (Stp.drew h).trans h1⟩
  · have hfr : ((w.drew.alloc (.cells arr e)).freeze ⟨w.heap.size, cap, none⟩ 1) = w.drew.alloc (.cells arr e (cap, cap + 1)) := by
      have := modify_push w.heap (Obj.cells arr e) (fun
        | .cells c elem (lo, hi) => .cells c elem (if lo == hi then (cap, cap + 1) else (min lo cap, max hi (cap + 1)))
        | o => o)
      exact congrArg (fun h => ({ heap := h, tape := w.tape, drawn := w.drawn + 1, os := w.os, output := w.output } : World)) this
    have hshape : (w.drew.alloc (.cells arr e)).shape? w.heap.size = some (e, cap) := by
      have this : (w.drew.alloc (.cells arr e)).heap[w.heap.size]? = some (.cells arr e) := heap_push_new w.drew (.cells arr e)
      unfold World.shape?
      rw [this]
      simp [harr]
    have hrow : arr = (bs.data.map fun b => Value.int .u8 b.toNat) ++ Array.replicate (cap - bs.size) (.int .u8 0) := rfl
    simp only [Conv.stringToBytes, Sem.run_bind, run_choose, Question.forced, Bool.false_eq_true, if_false, Question.cut, Result.andThen_ok, run_newRow, World.drew_eq]
    simp only [markStringish, Sem.run_bind, run_shape, World.size_drew, Result.andThen_ok]
    rw [← hrow] 
    simp only [hshape, run_freeze, Sem.run_pure, Result.andThen_ok]
    rw [hfr]
  · rw [hsz]
    exact VR.sl id 0 0 b.length (.room 1) w.heap.size 0 arr.size cap h2 (by omega) (by show 0 + 0 + cap * 1 ≤ arr.size; omega)

theorem ofBytes_ok : ∀ (l : List AV) (b : List Nat) (vs : List Value), ofBytes l = some b → VRs σ l vs → ∃ ns : List Int, vs = ns.map (Value.int .u8) ∧ b = ns.map fun n => n.toNat % 256 := by
  intro l
  induction l with
  | nil => intro b vs h hv; simp [ofBytes] at h; subst h; rw [hv.nil_inv]; exact ⟨[], rfl, rfl⟩
  | cons x l ih =>
    intro b vs h hv
    unfold ofBytes at h
    split at h
    · rename_i hh; cases hh
    · rename_i n l' he
      obtain ⟨rfl, rfl⟩ := List.cons.inj he
      split at h
      · rename_i r hr
        simp at h; subst h
        obtain ⟨X, zs, rfl, hx, hs⟩ := hv.head
        obtain ⟨ns, rfl, rfl⟩ := ih r zs hr hs
        cases hx
        exact ⟨n :: ns, rfl, rfl⟩
      · simp at h
    · simp at h

theorem foldl_push (ns : List Int) (s : ByteArray) : (ns.foldl (fun r n => r.push (UInt8.ofNat n.toNat)) s).data.toList = s.data.toList ++ ns.map fun n => UInt8.ofNat n.toNat := by
  induction ns generalizing s with
  | nil => simp
  | cons n ns ih => rw [List.foldl_cons, ih]; simp [ByteArray.push]

theorem aconv_ok {src dst : TypeId} {x : AV} {X : Value} {r : ORes} (h : Rel σ S w) (ha : aconv P S src dst x = some r) (hx : VR σ x X) :
    ResOk σ S w (fun V w' => (convert src dst X).run P w = .ok V w') r := by
  unfold aconv at ha
  split at ha
  · rename_i ds k ks n hs hd
    cases hx
    rw [mkInt_eq] at ha
    simp at ha; subst ha
    exact ⟨_, w, by simp [convert, run_underlying_of hs, run_underlying_of hd, Conv.intToInt], .int _ _, Quiet.refl w⟩
  · rename_i ds b hs hd
    obtain ⟨bs, rfl, hb⟩ := ofBytesStr hx
    simp at ha; subst ha
    exact ⟨_, w, by simp [convert, run_underlying_of hs, run_underlying_of hd], .str _ _ hb, Quiet.refl w⟩
  · rename_i ds e b hs hd
    obtain ⟨bs, rfl, hb⟩ := ofBytesStr hx
    split at ha
    · rename_i he
      split at ha
      · rename_i id S' hn
        simp at ha; subst ha
        obtain ⟨τ, V, w', h1, h2, h3⟩ := aconv_bytes_ok (P := P) (e := e) h hn hb
        exact ⟨τ, V, w', by simp [convert, run_underlying_of hs, run_underlying_of hd, run_underlying_of he, h1], h2, h3⟩
      · simp at ha
    · simp at ha
  · rename_i e hs hd hnostr
    split at ha
    · rename_i n he hlen
      split at ha
      · rename_i l hl
        split at ha
        · rename_i b hb
          simp at ha; subst ha
          obtain ⟨Ls, f1, f2, f3, _⟩ := afirst_ok (P := P) h hl hx
          obtain ⟨ns, rfl, rfl⟩ := ofBytes_ok l b Ls hb f2
          obtain ⟨_, hlen2⟩ := alen_ok (P := P) (w := w) hlen hx
          have hstr : ∀ (s : ByteArray), (ns.foldl (fun r n => r.push (UInt8.ofNat n.toNat)) ByteArray.empty) = s → VR σ (.str (ns.map fun n => n.toNat % 256)) (.string s) := by
            intro s hs
            refine .str _ _ ?_
            rw [← hs, foldl_push]
            simp
          have hsl : ∃ a c, X = .slice a n c := by
            unfold alen at hlen
            split at hlen
            · cases hx; simp at hlen; subst hlen; exact ⟨_, _, rfl⟩
            · cases hx; simp at hlen; subst hlen; exact ⟨_, _, rfl⟩
            · cases hx; simp at hlen; subst hlen; exact ⟨_, _, rfl⟩
            · exact (hnostr _ rfl).elim
            · simp at hlen
          obtain ⟨a, c, rfl⟩ := hsl
          cases a with
          | none =>
            have h0 := f1 w rfl
            simp only [Builtin.firstCells, Sem.run_pure, Result.ok.injEq, and_true] at h0
            have hns : ns = [] := by
              have := congrArg Array.size h0
              simp at this
              exact List.eq_nil_of_length_eq_zero this.symm
            subst hns
            exact ⟨_, w, by simp [convert, run_underlying_of hs, run_underlying_of hd, run_underlying_of he, Conv.bytesToString], hstr _ rfl, Quiet.refl w⟩
          | some a =>
            have h0 := f1 w rfl
            simp only [Builtin.firstCells, Nat.mul_one] at h0
            refine ⟨_, w, ?_, hstr _ rfl, Quiet.refl w⟩
            rw [run_convert_bytes_string w src dst e (some a) n c hs he hd]
            exact run_bytesToString w a n c ns h0
        · simp at ha
      · simp at ha
    · simp at ha
  · simp at ha

end
end Go.Abs
