/- Lemmas of the proof: Lab, Cc. -/
import Derived.Test.YtihbaieiempjeaaGreatA0
import Derived.Test.YtihbaieiempjeaaGreatA1
namespace Go.Proofs.YtihbaieiempjeaaGreat
open Go.RowKit
def labelB (x:Int):Bool:=inB x 0 65535
theorem labelB_iff {x:Int}:labelB x=true↔0≤x∧x≤65535:=inB_iff
theorem below_label (s a n:Int):labelB (belowI s a n)=true:=inB_iff.2 (belowI_range s a n)
theorem xor_label {a b:Int} (ha:labelB a=true) (hb:labelB b=true):labelB (bits .xor .i64 a b)=true:=by
 obtain ⟨a0,a1⟩:=labelB_iff.1 ha
 obtain ⟨b0,b1⟩:=labelB_iff.1 hb
 obtain ⟨x,rfl⟩:=Int.eq_ofNat_of_zero_le a0
 obtain ⟨y,rfl⟩:=Int.eq_ofNat_of_zero_le b0
 rw [xor_nat x y (by omega) (by omega)]
 have h:x ^^^ y < 2 ^ 16:=Nat.xor_lt_two_pow (by omega) (by omega)
 exact labelB_iff.2 (by omega)
theorem xor_undo {a b:Int} (ha:labelB a=true) (hb:labelB b=true):bits .xor .i64 (bits .xor .i64 a b) b=a:=by
 obtain ⟨a0,a1⟩:=labelB_iff.1 ha
 obtain ⟨b0,b1⟩:=labelB_iff.1 hb
 obtain ⟨x,rfl⟩:=Int.eq_ofNat_of_zero_le a0
 obtain ⟨y,rfl⟩:=Int.eq_ofNat_of_zero_le b0
 have h:x ^^^ y < 2 ^ 16:=Nat.xor_lt_two_pow (by omega) (by omega)
 rw [xor_nat x y (by omega) (by omega),xor_nat _ y (by omega) (by omega),Nat.xor_assoc,Nat.xor_self,Nat.xor_zero]
theorem xor_zero {a:Int} (ha:labelB a=true):bits .xor .i64 a 0=a:=by
 obtain ⟨a0,a1⟩:=labelB_iff.1 ha
 obtain ⟨x,rfl⟩:=Int.eq_ofNat_of_zero_le a0
 have h:=xor_nat x 0 (by omega) (by omega)
 rw [Nat.xor_zero] at h
 exact h
theorem xor_swap {a b:Int} (ha:labelB a=true) (hb:labelB b=true):bits .xor .i64 a b=bits .xor .i64 b a:=by
 obtain ⟨a0,a1⟩:=labelB_iff.1 ha
 obtain ⟨b0,b1⟩:=labelB_iff.1 hb
 obtain ⟨x,rfl⟩:=Int.eq_ofNat_of_zero_le a0
 obtain ⟨y,rfl⟩:=Int.eq_ofNat_of_zero_le b0
 rw [xor_nat x y (by omega) (by omega),xor_nat y x (by omega) (by omega),Nat.xor_comm]
def zeroI (s k:Int):Int:=belowI (keyedI s 9 k) 0 65536
def deltaI (s a:Int):Int:=bits .or .i64 (belowI s a 65536) 1
theorem zero_label (s k:Int):labelB (zeroI s k)=true:=below_label _ _ _
theorem delta_label (s a:Int):labelB (deltaI s a)=true:=by
 unfold deltaI
 obtain ⟨a0,a1⟩:=labelB_iff.1 (below_label s a 65536)
 obtain ⟨x,hx⟩:=Int.eq_ofNat_of_zero_le a0
 rw [hx] at a1 ⊢
 have e:=or_nat x 1 (by omega) (by omega)
 have h:x ||| 1 < 2 ^ 16:=Nat.or_lt_two_pow (by omega) (by omega)
 rw [show (1:Int)=((1:Nat):Int) from rfl,e]
 exact labelB_iff.2 (by omega)
def lblI (z d v:Int):Int:=pick (v == 1) (bits .xor .i64 z d) z
theorem lbl_label {z d:Int} (v:Int) (hz:labelB z=true) (hd:labelB d=true):labelB (lblI z d v)=true:=by
 unfold lblI
 cases v == 1
 ·exact hz
 ·exact xor_label hz hd
theorem bit_cases {v:Int} (h:inB v 0 1=true):v=0∨v=1:=by
 have:=inB_iff.1 h
 omega
def bitsB (xs:List Int):Bool:=xs.all fun x=>inB x 0 1
theorem bitsB_no {xs:List Int} {k:Nat} {x:Int} (h:xs[k]? = some x) (hx:inB x 0 1=false):bitsB xs=false:=by
 unfold bitsB
 rw [List.all_eq_false]
 exact ⟨x,List.mem_of_getElem? h,by simp [hx]⟩
theorem bitsB_snoc {xs:List Int} {k:Nat} {x:Int} (h:xs[k]? = some x) (hw:bitsB (xs.take k)=true) (hx:inB x 0 1=true):bitsB (xs.take (k + 1))=true:=by
 rw [take_snoc h]
 unfold bitsB at *
 simp [hw,hx,List.all_append]
theorem bitsB_get {xs:List Int} {k:Nat} {x:Int} (h:bitsB xs=true) (hk:xs[k]? = some x):inB x 0 1=true:=by
 unfold bitsB at h
 rw [List.all_eq_true] at h
 exact h x (List.mem_of_getElem? hk)
def labsTo (s a:Int) (bs:List Int):Nat→List Int
 | 0=>[]
 | j + 1=>labsTo s a bs j ++ [lblI (zeroI s j) (deltaI s a) (bs.getD j 0)]
theorem labsTo_length (s a:Int) (bs:List Int) (j:Nat):(labsTo s a bs j).length=j:=by
 induction j with
 | zero=>rfl
 | succ j ih=>simp [labsTo,ih]
theorem labsTo_succ {s a:Int} {bs:List Int} {j:Nat} {x:Int} (h:bs[j]? = some x):labsTo s a bs (j + 1)=labsTo s a bs j ++ [lblI (zeroI s j) (deltaI s a) x]:=by
 rw [labsTo,List.getD_eq_getElem?_getD,h]
 rfl
theorem labsTo_get (s a:Int) (bs:List Int) (k:Nat):∀ j,k < j→(labsTo s a bs j)[k]? = some (lblI (zeroI s k) (deltaI s a) (bs.getD k 0))
 | 0,h=>absurd h (by omega)
 | j + 1,h=>by
  rw [labsTo,List.getElem?_append]
  by_cases hk:k < j
  ·rw [if_pos (by rw [labsTo_length]; exact hk)]
   exact labsTo_get s a bs k j hk
  ·have e:k=j:=by omega
   subst e
   rw [if_neg (by rw [labsTo_length]; omega),labsTo_length]
   simp
def replyI (m r s d:Int):Int:=bits .xor .i64 m (pick (d == 1) s r)
def recvI (e0 e1 b r:Int):Int:=bits .xor .i64 (pick (b == 1) e1 e0) r
theorem reply_label {m r s:Int} (d:Int) (hm:labelB m=true) (hr:labelB r=true) (hs:labelB s=true):labelB (replyI m r s d)=true:=by
 unfold replyI
 cases d == 1
 ·exact xor_label hm hr
 ·exact xor_label hm hs
theorem xor_bits:bits .xor .i64 0 0=0∧bits .xor .i64 0 1=1∧bits .xor .i64 1 0=1∧bits .xor .i64 1 1=0 :=
 ⟨xor_nat 0 0 (by omega) (by omega),xor_nat 0 1 (by omega) (by omega),xor_nat 1 0 (by omega) (by omega),xor_nat 1 1 (by omega) (by omega)⟩
theorem ask_bit {b c:Int} (hb:inB b 0 1=true) (hc:inB c 0 1=true):inB (bits .xor .i64 b c) 0 1=true:=by
 obtain ⟨x00,x01,x10,x11⟩:=xor_bits
 rcases bit_cases hb with rfl | rfl <;> rcases bit_cases hc with rfl | rfl <;> simp [x00,x01,x10,x11,inB]
theorem recv_all {z d r0 r1 b c:Int} (hz:labelB z=true) (hd:labelB d=true) (h0:labelB r0=true) (h1:labelB r1=true) (hb:inB b 0 1=true) (hc:inB c 0 1=true) :
  recvI (replyI (lblI z d 0) r0 r1 (bits .xor .i64 b c)) (replyI (lblI z d 1) r1 r0 (bits .xor .i64 b c)) b (pick (c == 1) r1 r0)=lblI z d b:=by
 obtain ⟨x00,x01,x10,x11⟩:=xor_bits
 have hzd:=xor_label hz hd
 rcases bit_cases hb with rfl | rfl <;> rcases bit_cases hc with rfl | rfl
 ·rw [x00]; exact xor_undo hz h0
 ·rw [x01]; exact xor_undo hz h1
 ·rw [x10]; exact xor_undo hzd h0
 ·rw [x11]; exact xor_undo hzd h1
theorem iIsLabel (x:Int) (w:World):Calls Tryz.prog 172 #[.int .i64 x] w fun e w'=>e=.returned (.bool (labelB x))∧w=w':=by
 go_enter Tryz.func172,Tryz.ntmps172
 go_wp2_with (go_at_call 56; refine (iWithin _ _ _ _).mono ?_; rintro e w' ⟨rfl,rfl⟩)
 go_ret
 exact ⟨rfl,rfl⟩
set_option maxHeartbeats 800000 in
theorem iTapeFork (s a k:Int) (w:World) (h1:tapeOkB s a=true) (h2:inB k 0 1000000=true) :
  Calls Tryz.prog 14 #[.agg #[.int .i64 s,.int .i64 a],.int .i64 k] w fun e w'=>e=.returned (.agg #[.int .i64 (keyedI s 9 k),.int .i64 0])∧Below w.heap.size w w':=by
 go_enter Tryz.func14,Tryz.ntmps14
 have b_0:=(Below.refl w.heap.size w)
 have s_0:=b_0.size
 go_wp2_with fail
 refine calls_forget2 (W:=w) (b0:=w.heap.size) (t0:=27) (c0:=#[.int .i64 s,.int .i64 a]) (b1:=w.heap.size + 1) (t1:=27) (c1:=#[.int .i64 0,.int .i64 0]) ?_ ?_ ?_ ?_
 (focus exact blkcBy)
 (focus exact blkcBy)
 (focus (exact belBy))
 intro X1 t_n r_n hX1
 have sX1:=hX1.size
 have t_lt:=t_n.lt
 have r_lt:=r_n.lt
 refine (iTapeOk _ _ _).mono ?_
 rintro e w1 ⟨rfl,hb1⟩
 have s1:=hb1.size
 have hT1:=hX1.trans (hb1.mono sX1)
 have b_1:=b_0.trans (hT1.mono (by omega))
 have t_1:=Blk.past hb1 t_n
 have r_1:=Blk.past hb1 r_n
 clear b_0 t_n r_n hX1 hT1 hb1
 have cell_t:=t_1.cell
 have froz_t:=t_1.frozen
 have lt_t:=t_1.lt
 have cell_r:=r_1.cell
 have froz_r:=r_1.frozen
 have lt_r:=r_1.lt
 go_wp2_with fail
 refine calls_forget0 (W:=w1) ?_ ?_
 (focus (exact belBy))
 intro X2 hX2
 have sX2:=hX2.size
 refine (iWithin _ _ _ _).mono ?_
 rintro e w' ⟨rfl,rfl⟩
 have b_2:=b_1.trans (hX2.mono (by omega))
 have t_2:=Blk.past hX2 t_1
 have r_2:=Blk.past hX2 r_1
 clear t_1 r_1 b_1 cell_t froz_t lt_t cell_r froz_r lt_r hX2
 have cell_t:=t_2.cell
 have froz_t:=t_2.frozen
 have lt_t:=t_2.lt
 have cell_r:=r_2.cell
 have froz_r:=r_2.frozen
 have lt_r:=r_2.lt
 go_wp2_with fail
 refine calls_forget0 (W:=X2) ?_ ?_
 (focus (exact belBy))
 intro X3 hX3
 have sX3:=hX3.size
 refine (iKeyed _ _ _ _).mono ?_
 rintro e w' ⟨rfl,rfl⟩
 have b_3:=b_2.trans (hX3.mono (by omega))
 have t_3:=Blk.past hX3 t_2
 have r_3:=Blk.past hX3 r_2
 clear t_2 r_2 b_2 cell_t froz_t lt_t cell_r froz_r lt_r hX3
 have cell_t:=t_3.cell
 have froz_t:=t_3.frozen
 have lt_t:=t_3.lt
 have cell_r:=r_3.cell
 have froz_r:=r_3.frozen
 have lt_r:=r_3.lt
 go_wp2_with fail
 ((try simp only [Exit.inBlock,Exit.then]); apply bodyPost_ret0; focus ((try simp only [results,Tryz.results14]); (try go_simp); (try rfl)))
 refine ⟨rfl,?_⟩
 exact belBy
set_option maxHeartbeats 800000 in
theorem iInputZero (s a k:Int) (w:World) (h1:tapeOkB s a=true) (h2:inB k 0 1000000=true) :
  Calls Tryz.prog 98 #[.agg #[.int .i64 s,.int .i64 a],.int .i64 k] w fun e w'=>e=.returned (.int .i64 (zeroI s k))∧Below w.heap.size w w':=by
 have hF:=hid (fun w=>iTapeFork s a k w h1 h2)
 go_enter Tryz.func98,Tryz.ntmps98
 have b_0:=(Below.refl w.heap.size w)
 have s_0:=b_0.size
 go_wp2_with fail
 refine calls_forget1 (W:=w) (b0:=w.heap.size) (t0:=27) (c0:=#[.int .i64 s,.int .i64 a]) ?_ ?_ ?_
 (focus exact blkcBy)
 (focus (exact belBy))
 intro X1 t_n hX1
 have sX1:=hX1.size
 have t_lt:=t_n.lt
 refine (iTapeOk _ _ _).mono ?_
 rintro e w1 ⟨rfl,hb1⟩
 have s1:=hb1.size
 have hT1:=hX1.trans (hb1.mono sX1)
 have b_1:=b_0.trans (hT1.mono (by omega))
 have t_1:=Blk.past hb1 t_n
 clear b_0 t_n hX1 hT1 hb1
 have cell_t:=t_1.cell
 have froz_t:=t_1.frozen
 have lt_t:=t_1.lt
 go_wp2_with fail
 refine calls_forget0 (W:=w1) ?_ ?_
 (focus (exact belBy))
 intro X2 hX2
 have sX2:=hX2.size
 refine (iWithin _ _ _ _).mono ?_
 rintro e w' ⟨rfl,rfl⟩
 have b_2:=b_1.trans (hX2.mono (by omega))
 have t_2:=Blk.past hX2 t_1
 clear t_1 b_1 cell_t froz_t lt_t hX2
 have cell_t:=t_2.cell
 have froz_t:=t_2.frozen
 have lt_t:=t_2.lt
 go_wp2_with fail
 refine calls_forget0 (W:=X2) ?_ ?_
 (focus (exact belBy))
 intro X3 hX3
 have sX3:=hX3.size
 refine (hF.out _).mono ?_
 rintro e w3 ⟨rfl,hb3⟩
 have s3:=hb3.size
 have hT3:=hX3.trans (hb3.mono sX3)
 have b_3:=b_2.trans (hT3.mono (by omega))
 have t_3:=Blk.past hT3 t_2
 clear t_2 b_2 cell_t froz_t lt_t hX3 hT3 hb3
 have cell_t:=t_3.cell
 have froz_t:=t_3.frozen
 have lt_t:=t_3.lt
 go_wp2_with fail
 refine calls_forget0 (W:=w3) ?_ ?_
 (focus (exact belBy))
 intro X4 hX4
 have sX4:=hX4.size
 refine (iTapeBelow _ _ _ _).mono ?_
 rintro e w4 ⟨rfl,hb4⟩
 have s4:=hb4.size
 have hT4:=hX4.trans (hb4.mono sX4)
 have b_4:=b_3.trans (hT4.mono (by omega))
 have t_4:=Blk.past hT4 t_3
 clear t_3 b_3 cell_t froz_t lt_t hX4 hT4 hb4
 have cell_t:=t_4.cell
 have froz_t:=t_4.frozen
 have lt_t:=t_4.lt
 go_wp2_with fail
 go_ret
 refine ⟨rfl,?_⟩
 exact belBy
theorem sIsLabel (x:Int) (w:World):Calls Tryz.prog 180 #[.int .i64 x] w fun e w'=>e=.returned (.bool (labelB x))∧w=w':=by
 go_enter Tryz.func180,Tryz.ntmps180
 go_wp2_with (go_at_call 123; refine (sWithin _ _ _ _).mono ?_; rintro e w' ⟨rfl,rfl⟩)
 go_ret
 exact ⟨rfl,rfl⟩
set_option maxHeartbeats 800000 in
theorem sTapeFork (s a k:Int) (w:World) (h1:tapeOkB s a=true) (h2:inB k 0 1000000=true) :
  Calls Tryz.prog 181 #[.agg #[.int .i64 s,.int .i64 a],.int .i64 k] w fun e w'=>e=.returned (.agg #[.int .i64 (keyedI s 9 k),.int .i64 0])∧Below w.heap.size w w':=by
 go_enter Tryz.func181,Tryz.ntmps181
 have b_0:=(Below.refl w.heap.size w)
 have s_0:=b_0.size
 go_wp2_with fail
 refine calls_forget2 (W:=w) (b0:=w.heap.size) (t0:=27) (c0:=#[.int .i64 s,.int .i64 a]) (b1:=w.heap.size + 1) (t1:=27) (c1:=#[.int .i64 0,.int .i64 0]) ?_ ?_ ?_ ?_
 (focus exact blkcBy)
 (focus exact blkcBy)
 (focus (exact belBy))
 intro X1 t_n r_n hX1
 have sX1:=hX1.size
 have t_lt:=t_n.lt
 have r_lt:=r_n.lt
 refine (sTapeOk _ _ _).mono ?_
 rintro e w1 ⟨rfl,hb1⟩
 have s1:=hb1.size
 have hT1:=hX1.trans (hb1.mono sX1)
 have b_1:=b_0.trans (hT1.mono (by omega))
 have t_1:=Blk.past hb1 t_n
 have r_1:=Blk.past hb1 r_n
 clear b_0 t_n r_n hX1 hT1 hb1
 have cell_t:=t_1.cell
 have froz_t:=t_1.frozen
 have lt_t:=t_1.lt
 have cell_r:=r_1.cell
 have froz_r:=r_1.frozen
 have lt_r:=r_1.lt
 go_wp2_with fail
 refine calls_forget0 (W:=w1) ?_ ?_
 (focus (exact belBy))
 intro X2 hX2
 have sX2:=hX2.size
 refine (sWithin _ _ _ _).mono ?_
 rintro e w' ⟨rfl,rfl⟩
 have b_2:=b_1.trans (hX2.mono (by omega))
 have t_2:=Blk.past hX2 t_1
 have r_2:=Blk.past hX2 r_1
 clear t_1 r_1 b_1 cell_t froz_t lt_t cell_r froz_r lt_r hX2
 have cell_t:=t_2.cell
 have froz_t:=t_2.frozen
 have lt_t:=t_2.lt
 have cell_r:=r_2.cell
 have froz_r:=r_2.frozen
 have lt_r:=r_2.lt
 go_wp2_with fail
 refine calls_forget0 (W:=X2) ?_ ?_
 (focus (exact belBy))
 intro X3 hX3
 have sX3:=hX3.size
 refine (sKeyed _ _ _ _).mono ?_
 rintro e w' ⟨rfl,rfl⟩
 have b_3:=b_2.trans (hX3.mono (by omega))
 have t_3:=Blk.past hX3 t_2
 have r_3:=Blk.past hX3 r_2
 clear t_2 r_2 b_2 cell_t froz_t lt_t cell_r froz_r lt_r hX3
 have cell_t:=t_3.cell
 have froz_t:=t_3.frozen
 have lt_t:=t_3.lt
 have cell_r:=r_3.cell
 have froz_r:=r_3.frozen
 have lt_r:=r_3.lt
 go_wp2_with fail
 ((try simp only [Exit.inBlock,Exit.then]); apply bodyPost_ret0; focus ((try simp only [results,Tryz.results181]); (try go_simp); (try rfl)))
 refine ⟨rfl,?_⟩
 exact belBy
set_option maxHeartbeats 800000 in
theorem sInputZero (s a k:Int) (w:World) (h1:tapeOkB s a=true) (h2:inB k 0 1000000=true) :
  Calls Tryz.prog 137 #[.agg #[.int .i64 s,.int .i64 a],.int .i64 k] w fun e w'=>e=.returned (.int .i64 (zeroI s k))∧Below w.heap.size w w':=by
 have hF:=hid (fun w=>sTapeFork s a k w h1 h2)
 go_enter Tryz.func137,Tryz.ntmps137
 have b_0:=(Below.refl w.heap.size w)
 have s_0:=b_0.size
 go_wp2_with fail
 refine calls_forget1 (W:=w) (b0:=w.heap.size) (t0:=27) (c0:=#[.int .i64 s,.int .i64 a]) ?_ ?_ ?_
 (focus exact blkcBy)
 (focus (exact belBy))
 intro X1 t_n hX1
 have sX1:=hX1.size
 have t_lt:=t_n.lt
 refine (sTapeOk _ _ _).mono ?_
 rintro e w1 ⟨rfl,hb1⟩
 have s1:=hb1.size
 have hT1:=hX1.trans (hb1.mono sX1)
 have b_1:=b_0.trans (hT1.mono (by omega))
 have t_1:=Blk.past hb1 t_n
 clear b_0 t_n hX1 hT1 hb1
 have cell_t:=t_1.cell
 have froz_t:=t_1.frozen
 have lt_t:=t_1.lt
 go_wp2_with fail
 refine calls_forget0 (W:=w1) ?_ ?_
 (focus (exact belBy))
 intro X2 hX2
 have sX2:=hX2.size
 refine (sWithin _ _ _ _).mono ?_
 rintro e w' ⟨rfl,rfl⟩
 have b_2:=b_1.trans (hX2.mono (by omega))
 have t_2:=Blk.past hX2 t_1
 clear t_1 b_1 cell_t froz_t lt_t hX2
 have cell_t:=t_2.cell
 have froz_t:=t_2.frozen
 have lt_t:=t_2.lt
 go_wp2_with fail
 refine calls_forget0 (W:=X2) ?_ ?_
 (focus (exact belBy))
 intro X3 hX3
 have sX3:=hX3.size
 refine (hF.out _).mono ?_
 rintro e w3 ⟨rfl,hb3⟩
 have s3:=hb3.size
 have hT3:=hX3.trans (hb3.mono sX3)
 have b_3:=b_2.trans (hT3.mono (by omega))
 have t_3:=Blk.past hT3 t_2
 clear t_2 b_2 cell_t froz_t lt_t hX3 hT3 hb3
 have cell_t:=t_3.cell
 have froz_t:=t_3.frozen
 have lt_t:=t_3.lt
 go_wp2_with fail
 refine calls_forget0 (W:=w3) ?_ ?_
 (focus (exact belBy))
 intro X4 hX4
 have sX4:=hX4.size
 refine (sTapeBelow _ _ _ _).mono ?_
 rintro e w4 ⟨rfl,hb4⟩
 have s4:=hb4.size
 have hT4:=hX4.trans (hb4.mono sX4)
 have b_4:=b_3.trans (hT4.mono (by omega))
 have t_4:=Blk.past hT4 t_3
 clear t_3 b_3 cell_t froz_t lt_t hX4 hT4 hb4
 have cell_t:=t_4.cell
 have froz_t:=t_4.frozen
 have lt_t:=t_4.lt
 go_wp2_with fail
 go_ret
 refine ⟨rfl,?_⟩
 exact belBy
theorem s_l06 (s a:Int) (w:World) :
  Calls Tryz.prog 134 #[.agg #[.int .i64 s,.int .i64 a]] w fun e w'=>e=.returned (.bool (tapeOkB s a && decide (a≤900000)))∧Below w.heap.size w w':=by
 cases h1:tapeOkB s a; rotate_left
 cases h2:decide (a≤900000)
 all_goals
  go_enter Tryz.func134,Tryz.ntmps134
  go_wp2_with (go_at_call 131; refine (sTapeOk _ _ _).mono ?_; rintro e w1 ⟨rfl,hb1⟩; obtain ⟨z1,c1,f1⟩:=bfacts hb1)
  go_ret
  refine ⟨by simp,?_⟩
  exact belBy
theorem s_l38 (s a:Int) (w:World) :
  Calls Tryz.prog 67 #[.agg #[.int .i64 s,.int .i64 a]] w fun e w'=>e=.returned (.bool (tapeOkB s a && decide (a≤800000)))∧Below w.heap.size w w':=by
 cases h1:tapeOkB s a; rotate_left
 cases h2:decide (a≤800000)
 all_goals
  go_enter Tryz.func67,Tryz.ntmps67
  go_wp2_with (go_at_call 131; refine (sTapeOk _ _ _).mono ?_; rintro e w1 ⟨rfl,hb1⟩; obtain ⟨z1,c1,f1⟩:=bfacts hb1)
  go_ret
  refine ⟨by simp,?_⟩
  exact belBy
set_option maxHeartbeats 800000 in
theorem iDeltaOf (s a:Int) (w:World) (h1:tapeOkB s a=true) (h2:a≤900000) :
  Calls Tryz.prog 95 #[.agg #[.int .i64 s,.int .i64 a]] w fun e w'=>e=.returned (.tuple #[.int .i64 (deltaI s a),.agg #[.int .i64 s,.int .i64 (belowAt s a 65536)]])∧Below w.heap.size w w':=by
 have h3:decide (900000 < a)=false:=by simp; omega
 clear h2
 go_enter Tryz.func95,Tryz.ntmps95
 have b_0:=(Below.refl w.heap.size w)
 have s_0:=b_0.size
 go_wp2_with fail
 refine calls_forget2 (W:=w) (b0:=w.heap.size) (t0:=27) (c0:=#[.int .i64 s,.int .i64 a]) (b1:=w.heap.size + 1) (t1:=27) (c1:=#[.int .i64 0,.int .i64 0]) ?_ ?_ ?_ ?_
 (focus exact blkcBy)
 (focus exact blkcBy)
 (focus (exact belBy))
 intro X1 t_n r_n hX1
 have sX1:=hX1.size
 have t_lt:=t_n.lt
 have r_lt:=r_n.lt
 refine (iTapeOk _ _ _).mono ?_
 rintro e w1 ⟨rfl,hb1⟩
 have s1:=hb1.size
 have hT1:=hX1.trans (hb1.mono sX1)
 have b_1:=b_0.trans (hT1.mono (by omega))
 have t_1:=Blk.past hb1 t_n
 have r_1:=Blk.past hb1 r_n
 clear b_0 t_n r_n hX1 hT1 hb1
 have cell_t:=t_1.cell
 have froz_t:=t_1.frozen
 have lt_t:=t_1.lt
 have cell_r:=r_1.cell
 have froz_r:=r_1.frozen
 have lt_r:=r_1.lt
 go_wp2_with fail
 refine calls_forget0 (W:=w1) ?_ ?_
 (focus (exact belBy))
 intro X2 hX2
 have sX2:=hX2.size
 refine (iTapeBelow _ _ _ _).mono ?_
 rintro e w2 ⟨rfl,hb2⟩
 have s2:=hb2.size
 have hT2:=hX2.trans (hb2.mono sX2)
 have b_2:=b_1.trans (hT2.mono (by omega))
 have t_2:=Blk.past hT2 t_1
 have r_2:=Blk.past hT2 r_1
 clear t_1 r_1 b_1 cell_t froz_t lt_t cell_r froz_r lt_r hX2 hT2 hb2
 have cell_t:=t_2.cell
 have froz_t:=t_2.frozen
 have lt_t:=t_2.lt
 have cell_r:=r_2.cell
 have froz_r:=r_2.frozen
 have lt_r:=r_2.lt
 go_wp2_with fail
 refine wp_forget1 (w0:=w2) (B:=w2.heap.size) (b0:=w2.heap.size) (t0:=27) (c0:=#[.int .i64 s,.int .i64 (belowAt s a 65536)]) ?_ ?_ ?_
 (focus exact blkcBy)
 (focus (exact belBy))
 intro w3 nx_3 hX3
 have sX3:=hX3.size
 have nx_lt:=nx_3.lt
 have b_3:=b_2.trans (hX3.mono (by omega))
 have t_3:=Blk.past hX3 t_2
 have r_3:=Blk.past hX3 r_2
 clear t_2 r_2 b_2 cell_t froz_t lt_t cell_r froz_r lt_r hX3
 have cell_t:=t_3.cell
 have froz_t:=t_3.frozen
 have lt_t:=t_3.lt
 have cell_r:=r_3.cell
 have froz_r:=r_3.frozen
 have lt_r:=r_3.lt
 have cell_nx:=nx_3.cell
 have froz_nx:=nx_3.frozen
 have lt_nx:=nx_3.lt
 go_wp2_with fail
 go_region_held3 (fun w'=>w'.cell? ⟨w2.heap.size,0,none⟩=some (.int .i64 s)∧w'.cell? ⟨w2.heap.size,1,none⟩=some (.int .i64 (belowAt s a 65536))) ((refine ⟨(Blk.cell (t:=27) (cs:=#[.int .i64 s,.int .i64 (belowAt s a 65536)]) ?qnx 0),(Blk.cell ?qnx 1)⟩; (case qnx=>(exact blkBy)))) (fail)
 all_goals
  go_wp2_with fail
  ((try simp only [Exit.inBlock,Exit.then]); apply bodyPost_ret0; focus ((try simp only [results,Tryz.results95]); (try go_simp); (try rfl)))
  refine ⟨rfl,?_⟩
  exact belBy
set_option maxHeartbeats 800000 in
theorem sDeltaOf (s a:Int) (w:World) (h1:tapeOkB s a=true) (h2:a≤900000) :
  Calls Tryz.prog 135 #[.agg #[.int .i64 s,.int .i64 a]] w fun e w'=>e=.returned (.tuple #[.int .i64 (deltaI s a),.agg #[.int .i64 s,.int .i64 (belowAt s a 65536)]])∧Below w.heap.size w w':=by
 have h3:(tapeOkB s a && decide (a≤900000))=true:=by simp [h1,h2]
 clear h2 h1
 go_enter Tryz.func135,Tryz.ntmps135
 have b_0:=(Below.refl w.heap.size w)
 have s_0:=b_0.size
 go_wp2_with fail
 refine calls_forget2 (W:=w) (b0:=w.heap.size) (t0:=27) (c0:=#[.int .i64 s,.int .i64 a]) (b1:=w.heap.size + 1) (t1:=27) (c1:=#[.int .i64 0,.int .i64 0]) ?_ ?_ ?_ ?_
 (focus exact blkcBy)
 (focus exact blkcBy)
 (focus (exact belBy))
 intro X1 t_n r_n hX1
 have sX1:=hX1.size
 have t_lt:=t_n.lt
 have r_lt:=r_n.lt
 refine (s_l06 _ _ _).mono ?_
 rintro e w1 ⟨rfl,hb1⟩
 have s1:=hb1.size
 have hT1:=hX1.trans (hb1.mono sX1)
 have b_1:=b_0.trans (hT1.mono (by omega))
 have t_1:=Blk.past hb1 t_n
 have r_1:=Blk.past hb1 r_n
 clear b_0 t_n r_n hX1 hT1 hb1
 have cell_t:=t_1.cell
 have froz_t:=t_1.frozen
 have lt_t:=t_1.lt
 have cell_r:=r_1.cell
 have froz_r:=r_1.frozen
 have lt_r:=r_1.lt
 rw [h3]
 go_wp2_with fail
 refine calls_forget0 (W:=w1) ?_ ?_
 (focus (exact belBy))
 intro X2 hX2
 have sX2:=hX2.size
 refine (sTapeBelow _ _ _ _).mono ?_
 rintro e w2 ⟨rfl,hb2⟩
 have s2:=hb2.size
 have hT2:=hX2.trans (hb2.mono sX2)
 have b_2:=b_1.trans (hT2.mono (by omega))
 have t_2:=Blk.past hT2 t_1
 have r_2:=Blk.past hT2 r_1
 clear t_1 r_1 b_1 cell_t froz_t lt_t cell_r froz_r lt_r hX2 hT2 hb2
 have cell_t:=t_2.cell
 have froz_t:=t_2.frozen
 have lt_t:=t_2.lt
 have cell_r:=r_2.cell
 have froz_r:=r_2.frozen
 have lt_r:=r_2.lt
 go_wp2_with fail
 refine wp_forget1 (w0:=w2) (B:=w2.heap.size) (b0:=w2.heap.size) (t0:=27) (c0:=#[.int .i64 s,.int .i64 (belowAt s a 65536)]) ?_ ?_ ?_
 (focus exact blkcBy)
 (focus (exact belBy))
 intro w3 nx_3 hX3
 have sX3:=hX3.size
 have nx_lt:=nx_3.lt
 have b_3:=b_2.trans (hX3.mono (by omega))
 have t_3:=Blk.past hX3 t_2
 have r_3:=Blk.past hX3 r_2
 clear t_2 r_2 b_2 cell_t froz_t lt_t cell_r froz_r lt_r hX3
 have cell_t:=t_3.cell
 have froz_t:=t_3.frozen
 have lt_t:=t_3.lt
 have cell_r:=r_3.cell
 have froz_r:=r_3.frozen
 have lt_r:=r_3.lt
 have cell_nx:=nx_3.cell
 have froz_nx:=nx_3.frozen
 have lt_nx:=nx_3.lt
 go_wp2_with fail
 go_region_held3 (fun w'=>w'.cell? ⟨w2.heap.size,0,none⟩=some (.int .i64 s)∧w'.cell? ⟨w2.heap.size,1,none⟩=some (.int .i64 (belowAt s a 65536))) ((refine ⟨(Blk.cell (t:=27) (cs:=#[.int .i64 s,.int .i64 (belowAt s a 65536)]) ?qnx 0),(Blk.cell ?qnx 1)⟩; (case qnx=>(exact blkBy)))) (fail)
 all_goals
  go_wp2_with fail
  ((try simp only [Exit.inBlock,Exit.then]); apply bodyPost_ret0; focus ((try simp only [results,Tryz.results135]); (try go_simp); (try rfl)))
  refine ⟨rfl,?_⟩
  exact belBy
theorem iLabels (A:Option Addr) (c:Nat) (xs:List Int) (w:World) (hx:∀ (j:Nat) (x:Int),xs[j]? = some x→labelB x=true) (hc:Cells w w.heap.size A (ints xs)) (hn:xs.length≤1000000000) :
  Calls Tryz.prog 110 #[.slice A xs.length c] w fun e w'=>e=.returned (.bool true)∧w=w':=by
 go_enter Tryz.func110,Tryz.ntmps110
 go_wp2
 go_loop [4,7] (fun _ i=>∃ j:Nat,j≤xs.length∧i=.int .i64 j) (fun _ i=>xs.length - (intOf i).toNat)
 case atStart=>exact ⟨0,Nat.zero_le _,rfl⟩
 case round =>
  obtain ⟨j,hj,rfl⟩:=hrel
  by_cases hlt:j < xs.length
  ·obtain ⟨x,hx1⟩:∃ x,xs[j]? = some x:=⟨_,List.getElem?_eq_getElem hlt⟩
   have hb:=hx j x hx1
   obtain ⟨b,off,rfl,hB,hcl⟩:=hc (by rw [ints_length]; omega)
   have hcell:w.cell? ⟨b,off + j,none⟩=some (.int .i64 x):=hcl j _ (ints_get hx1)
   clear hcl hc hx hx1
   go_wp2_with (go_at_call 172; refine (iIsLabel _ _).mono ?_; rintro e w' ⟨rfl,rfl⟩)
   go_round
   case rel=>exact ⟨j + 1,by omega,by go_num⟩
   case measure=>simp [intOf]; omega
  ·obtain rfl:j=xs.length:=by omega
   go_wp2
   go_ret
   exact ⟨rfl,rfl⟩
theorem cells_lit (w:World) (xs:List Int) (t:TypeId):Cells (w.alloc (.cells (ints xs).toArray t)) (w.alloc (.cells (ints xs).toArray t)).heap.size (some ⟨w.heap.size,0,none⟩) (ints xs):=fun _ =>
 ⟨w.heap.size,0,rfl,by simp,fun i v hv=>by
  have h:=(Blk.new (w:=w) (b:=w.heap.size) (t:=t) (cs:=(ints xs).toArray) rfl).cell i
  rw [Nat.zero_add,h]
  simpa using hv⟩
theorem iLab2 (a b:Int) (c:Nat) (t:TypeId) (w:World) (ha:labelB a=true) (hb:labelB b=true) :
  Calls Tryz.prog 110 #[.slice (some ⟨w.heap.size,0,none⟩) 2 c] (w.alloc (.cells #[.int .i64 a,.int .i64 b] t)) fun e w'=>e=.returned (.bool true)∧(w.alloc (.cells #[.int .i64 a,.int .i64 b] t))=w' :=
 iLabels (some ⟨w.heap.size,0,none⟩) c [a,b] (w.alloc (.cells #[.int .i64 a,.int .i64 b] t)) (fun j x h=>by
  have hm:=List.mem_of_getElem? h
  simp only [List.mem_cons,List.not_mem_nil,or_false] at hm
  rcases hm with rfl | rfl <;> assumption) (cells_lit w [a,b] t) (by simp)
theorem iLab3 (a b d:Int) (c:Nat) (t:TypeId) (w:World) (ha:labelB a=true) (hb:labelB b=true) (hd:labelB d=true) :
  Calls Tryz.prog 110 #[.slice (some ⟨w.heap.size,0,none⟩) 3 c] (w.alloc (.cells #[.int .i64 a,.int .i64 b,.int .i64 d] t)) fun e w'=>e=.returned (.bool true)∧(w.alloc (.cells #[.int .i64 a,.int .i64 b,.int .i64 d] t))=w' :=
 iLabels (some ⟨w.heap.size,0,none⟩) c [a,b,d] (w.alloc (.cells #[.int .i64 a,.int .i64 b,.int .i64 d] t)) (fun j x h=>by
  have hm:=List.mem_of_getElem? h
  simp only [List.mem_cons,List.not_mem_nil,or_false] at hm
  rcases hm with rfl | rfl | rfl <;> assumption) (cells_lit w [a,b,d] t) (by simp)
theorem iLab4 (a b d f:Int) (c:Nat) (t:TypeId) (w:World) (ha:labelB a=true) (hb:labelB b=true) (hd:labelB d=true) (hf:labelB f=true) :
  Calls Tryz.prog 110 #[.slice (some ⟨w.heap.size,0,none⟩) 4 c] (w.alloc (.cells #[.int .i64 a,.int .i64 b,.int .i64 d,.int .i64 f] t)) fun e w'=>e=.returned (.bool true)∧(w.alloc (.cells #[.int .i64 a,.int .i64 b,.int .i64 d,.int .i64 f] t))=w' :=
 iLabels (some ⟨w.heap.size,0,none⟩) c [a,b,d,f] (w.alloc (.cells #[.int .i64 a,.int .i64 b,.int .i64 d,.int .i64 f] t)) (fun j x h=>by
  have hm:=List.mem_of_getElem? h
  simp only [List.mem_cons,List.not_mem_nil,or_false] at hm
  rcases hm with rfl | rfl | rfl | rfl <;> assumption) (cells_lit w [a,b,d,f] t) (by simp)
theorem mul_wraps {d:Int} (hd:labelB d=true):wrap64 (1 * d)=d∧wrap64 (0 * d)=0:=by
 have h1:=labelB_iff.1 hd
 exact ⟨by rw [Int.one_mul]; exact IntWalk.wrap64_in _ (by omega),by rw [Int.zero_mul]; exact IntWalk.wrap64_in _ (by omega)⟩
set_option maxHeartbeats 800000 in
theorem iLabelFor (z d v:Int) (w:World) (hz:labelB z=true) (hd:labelB d=true) (hv:inB v 0 1=true) :
  Calls Tryz.prog 100 #[.int .i64 z,.int .i64 d,.int .i64 v] w fun e w'=>e=.returned (.int .i64 (lblI z d v))∧Below w.heap.size w w':=by
 have hw:=hid (mul_wraps hd)
 rcases bit_cases hv with rfl | rfl
 ·have e:bits .xor .i64 z 0=lblI z d 0:=xor_zero hz
  have E:=hid e
  clear e
  go_enter Tryz.func100,Tryz.ntmps100
  go_wp2_with (first | (go_at_call 110; refine (iLab2 _ _ _ _ _ hz hd).mono ?_; rintro e w' ⟨rfl,rfl⟩) | (go_at_call 56; refine (iWithin _ _ _ _).mono ?_; rintro e w' ⟨rfl,rfl⟩))
  go_ret
  refine ⟨ret_int (by have h:=hw.out; have e:=E.out; simp_all),?_⟩
  exact belBy
 ·have e:bits .xor .i64 z d=lblI z d 1:=rfl
  have E:=hid e
  clear e
  go_enter Tryz.func100,Tryz.ntmps100
  go_wp2_with (first | (go_at_call 110; refine (iLab2 _ _ _ _ _ hz hd).mono ?_; rintro e w' ⟨rfl,rfl⟩) | (go_at_call 56; refine (iWithin _ _ _ _).mono ?_; rintro e w' ⟨rfl,rfl⟩))
  go_ret
  refine ⟨ret_int (by have h:=hw.out; have e:=E.out; simp_all),?_⟩
  exact belBy
set_option maxHeartbeats 800000 in
theorem sLabelFor (z d v:Int) (w:World) (hz:labelB z=true) (hd:labelB d=true) (hv:inB v 0 1=true) :
  Calls Tryz.prog 136 #[.int .i64 z,.int .i64 d,.int .i64 v] w fun e w'=>e=.returned (.int .i64 (lblI z d v))∧Below w.heap.size w w':=by
 rcases bit_cases hv with rfl | rfl
 all_goals
  go_enter Tryz.func136,Tryz.ntmps136
  go_wp2_with (first | (go_at_call 180; refine (sIsLabel _ _).mono ?_; rintro e w' ⟨rfl,rfl⟩) | (go_at_call 123; refine (sWithin _ _ _ _).mono ?_; rintro e w' ⟨rfl,rfl⟩))
  go_ret
  refine ⟨rfl,?_⟩
  exact belBy
theorem iBits (A:Option Addr) (c:Nat) (xs:List Int) (w:World) (hc:Cells w w.heap.size A (ints xs)) (hn:xs.length≤1000000000) :
  Calls Tryz.prog 93 #[.slice A xs.length c] w fun e w'=>e=.returned (.bool (bitsB xs))∧w=w':=by
 go_enter Tryz.func93,Tryz.ntmps93
 go_wp2
 go_loop [4,7] (fun _ i=>∃ j:Nat,j≤xs.length∧i=.int .i64 j∧bitsB (xs.take j)=true) (fun _ i=>xs.length - (intOf i).toNat)
 case atStart=>exact ⟨0,Nat.zero_le _,rfl,rfl⟩
 case round =>
  obtain ⟨j,hj,rfl,hw⟩:=hrel
  by_cases hlt:j < xs.length
  ·obtain ⟨x,hx⟩:∃ x,xs[j]? = some x:=⟨_,List.getElem?_eq_getElem hlt⟩
   obtain ⟨b,off,rfl,hB,hcl⟩:=hc (by rw [ints_length]; omega)
   have hcell:w.cell? ⟨b,off + j,none⟩=some (.int .i64 x):=hcl j _ (ints_get hx)
   have HW:=hid hw
   have HX:=hid hx
   clear hcl hc hw hx
   cases hb:inB x 0 1
   ·go_wp2_with (go_at_call 56; refine (iWithin _ _ _ _).mono ?_; rintro e w' ⟨rfl,rfl⟩)
    go_ret
    exact ⟨ret_bool (by rw [bitsB_no HX.out hb]),rfl⟩
   ·go_wp2_with (go_at_call 56; refine (iWithin _ _ _ _).mono ?_; rintro e w' ⟨rfl,rfl⟩)
    go_round
    case rel=>exact ⟨j + 1,by omega,by go_num,bitsB_snoc HX.out HW.out hb⟩
    case measure=>simp [intOf]; omega
  ·obtain rfl:j=xs.length:=by omega
   rw [List.take_length] at hw
   have HW:=hid hw
   clear hw
   go_wp2
   go_ret
   exact ⟨ret_bool HW.out.symm,rfl⟩
theorem sBits (A:Option Addr) (c:Nat) (xs:List Int) (n:Int) (w:World) (hc:Cells w w.heap.size A (ints xs)) (hn:xs.length≤1000000000) :
  Calls Tryz.prog 63 #[.slice A xs.length c,.int .i64 n] w fun e w'=>e=.returned (.bool (bitsB xs && ((xs.length:Int) == n)))∧w=w':=by
 go_enter Tryz.func63,Tryz.ntmps63
 go_wp2
 go_loop [5] (fun i=>∃ j:Nat,j≤xs.length∧i=.int .i64 j∧bitsB (xs.take j)=true) (fun i=>xs.length - (intOf i).toNat)
 case atStart=>exact ⟨0,Nat.zero_le _,rfl,rfl⟩
 case round =>
  obtain ⟨j,hj,rfl,hw⟩:=hrel
  by_cases hlt:j < xs.length
  ·obtain ⟨x,hx⟩:∃ x,xs[j]? = some x:=⟨_,List.getElem?_eq_getElem hlt⟩
   obtain ⟨b,off,rfl,hB,hcl⟩:=hc (by rw [ints_length]; omega)
   have hcell:w.cell? ⟨b,off + j,none⟩=some (.int .i64 x):=hcl j _ (ints_get hx)
   have HW:=hid hw
   have HX:=hid hx
   clear hcl hc hw hx
   cases hb:inB x 0 1
   ·go_wp2_with (go_at_call 123; refine (sWithin _ _ _ _).mono ?_; rintro e w' ⟨rfl,rfl⟩)
    go_ret
    exact ⟨ret_bool (by rw [bitsB_no HX.out hb]; rfl),rfl⟩
   ·go_wp2_with (go_at_call 123; refine (sWithin _ _ _ _).mono ?_; rintro e w' ⟨rfl,rfl⟩)
    go_round
    case rel=>exact ⟨j + 1,by omega,by go_num,bitsB_snoc HX.out HW.out hb⟩
    case measure=>simp [intOf]; omega
  ·obtain rfl:j=xs.length:=by omega
   rw [List.take_length] at hw
   have HW:=hid hw
   clear hw
   go_wp2
   go_ret
   exact ⟨ret_bool (by rw [HW.out]; rfl),rfl⟩
open Go.RowKit
structure Gt where
 k:Int
 a:Int
 b:Int
def flatG:List Gt→List Int
 | []=>[]
 | g :: r=>g.k :: g.a :: g.b :: flatG r
theorem flatG_length:∀ L,(flatG L).length=L.length * 3
 | []=>rfl
 | s :: r=>by simp only [flatG,List.length_cons,flatG_length r]; omega
theorem flatG_append:∀ A B,flatG (A ++ B)=flatG A ++ flatG B
 | [],B=>rfl
 | s :: r,B=>by simp only [flatG,List.cons_append,flatG_append r B]
def threeG (g:Gt):List Int:=[g.k,g.a,g.b]
theorem flatG_snoc (L:List Gt) (g:Gt):flatG (L ++ [g])=flatG L ++ threeG g:=flatG_append L [g]
theorem flatG_at:∀ {L:List Gt} {k:Nat} {s:Gt},L[k]? = some s→∀ (j:Nat) (x:Int),(threeG s)[j]? = some x→(flatG L)[k * 3 + j]? = some x
 | t :: r,0,s,h,j,x,hx=>by
  injection h with h
  subst h
  have hj:j < 3:=(List.getElem?_eq_some_iff.1 hx).1
  rw [show 0 * 3 + j=j by omega]
  match j,hj with
  | 0,_=>exact hx
  | 1,_=>exact hx
  | 2,_=>exact hx
 | t :: r,k + 1,s,h,j,x,hx=>by
  have ih:=flatG_at (L:=r) (k:=k) (by simpa using h) j x hx
  rw [show (k + 1) * 3 + j=(k * 3 + j) + 3 by omega]
  exact ih
def gateB (g:Gt) (n:Int):Bool :=
 if g.k=1 then inB g.a 0 79 && g.b == 0
 else if g.k=2 then inB g.a 0 1 && g.b == 0
 else if g.k=3∨g.k=4 then inB g.a 0 (n - 1) && inB g.b 0 (n - 1)
 else if g.k=5 then inB g.a 0 (n - 1) && g.b == 0
 else false
def gatesB:Nat→List Gt→Bool
 | _,[]=>true
 | n,g :: r=>gateB g n && gatesB (n + 1) r
def outsB (n:Nat) (os:List Int):Bool:=os.all fun w=>inB w 0 ((n:Int) - 1)
def circB (gs:List Gt) (os:List Int):Bool:=decide (gs.length≤6000) && (gatesB 0 gs && outsB gs.length os)
theorem gatesB_append:∀ (A B:List Gt) (n:Nat),gatesB n (A ++ B)=(gatesB n A && gatesB (n + A.length) B)
 | [],B,n=>by simp [gatesB]
 | g :: A,B,n=>by
  simp only [List.cons_append,gatesB,gatesB_append A B (n + 1),List.length_cons,Bool.and_assoc]
  rw [show n + 1 + A.length=n + (A.length + 1) by omega]
theorem gatesB_snoc {A:List Gt} {g:Gt} (h:gatesB 0 A=true) (hg:gateB g A.length=true):gatesB 0 (A ++ [g])=true:=by
 rw [gatesB_append,h]
 simp [gatesB,hg]
theorem gatesB_at:∀ {L:List Gt} {n k:Nat} {g:Gt},gatesB n L=true→L[k]? = some g→gateB g ((n + k:Nat):Int)=true
 | t :: r,n,0,g,h,hk=>by
  injection hk with hk
  subst hk
  simp only [gatesB,Bool.and_eq_true] at h
  exact h.1
 | t :: r,n,k + 1,g,h,hk=>by
  simp only [gatesB,Bool.and_eq_true] at h
  have ih:=gatesB_at h.2 (by simpa using hk)
  rw [show n + 1 + k=n + (k + 1) by omega] at ih
  exact ih
def wireB (n:Nat) (w:Int):Bool:=inB w 0 ((n:Int) - 1)
def wordB4 (n:Nat) (ws:List Int):Bool:=decide (ws.length=4) && ws.all (wireB n)
theorem wireB_iff {n:Nat} {w:Int}:wireB n w=true↔0≤w∧w < n:=by unfold wireB; rw [inB_iff]; omega
theorem wireB_mono {n m:Nat} {w:Int} (h:wireB n w=true) (hm:n≤m):wireB m w=true:=wireB_iff.2 (by have:=wireB_iff.1 h; omega)
theorem word4 {n:Nat} {ws:List Int} (h:wordB4 n ws=true):∃ a b c d:Int,ws=[a,b,c,d]∧wireB n a=true∧wireB n b=true∧wireB n c=true∧wireB n d=true:=by
 unfold wordB4 at h
 rw [Bool.and_eq_true,decide_eq_true_eq] at h
 obtain ⟨hl,ha⟩:=h
 match ws,hl with
 | [a,b,c,d],_ =>
  simp only [List.all_cons,List.all_nil,Bool.and_eq_true,Bool.and_true] at ha
  exact ⟨a,b,c,d,rfl,ha.1,ha.2.1,ha.2.2.1,ha.2.2.2⟩
theorem word4_mk {n:Nat} {a b c d:Int} (ha:wireB n a=true) (hb:wireB n b=true) (hc:wireB n c=true) (hd:wireB n d=true):wordB4 n [a,b,c,d]=true:=by
 unfold wordB4
 simp [ha,hb,hc,hd]
theorem wordB4_mono {n m:Nat} {ws:List Int} (h:wordB4 n ws=true) (hm:n≤m):wordB4 m ws=true:=by
 obtain ⟨a,b,c,d,rfl,h1,h2,h3,h4⟩:=word4 h
 exact word4_mk (wireB_mono h1 hm) (wireB_mono h2 hm) (wireB_mono h3 hm) (wireB_mono h4 hm)
def upW (n:Nat):Nat→List Int
 | 0=>[]
 | k + 1=>upW n k ++ [((n + k:Nat):Int)]
theorem upW_length (n:Nat):∀ k,(upW n k).length=k
 | 0=>rfl
 | k + 1=>by simp [upW,upW_length n k]
def fullG (gs:List Gt) (a b c:Int):List Gt :=
 gs ++ [⟨3,a,c⟩,⟨3,b,c⟩,⟨3,a,((gs.length + 1:Nat):Int)⟩,⟨4,((gs.length:Nat):Int),((gs.length + 1:Nat):Int)⟩,⟨3,((gs.length + 3:Nat):Int),c⟩]
theorem fullG_length (gs:List Gt) (a b c:Int):(fullG gs a b c).length=gs.length + 5:=by simp [fullG]
def sumTo (gs:List Gt) (ws bs:List Int) (first:Int):Nat→List Gt
 | 0=>gs ++ [⟨2,first,0⟩]
 | i + 1=>fullG (sumTo gs ws bs first i) (ws.getD i 0) (bs.getD i 0) ((gs.length + 5 * i:Nat):Int)
theorem sumTo_length (gs:List Gt) (ws bs:List Int) (first:Int):∀ i,(sumTo gs ws bs first i).length=gs.length + 5 * i + 1
 | 0=>by simp [sumTo]
 | i + 1=>by rw [sumTo,fullG_length,sumTo_length gs ws bs first i]; omega
def sumG (gs:List Gt) (ws bs:List Int) (first:Int) (m:Nat):List Gt :=
 sumTo gs ws bs first m ++ [⟨3,ws.getD m 0,bs.getD m 0⟩,⟨3,((gs.length + 5 * m + 1:Nat):Int),((gs.length + 5 * m:Nat):Int)⟩]
theorem sumG_length (gs:List Gt) (ws bs:List Int) (first:Int) (m:Nat):(sumG gs ws bs first m).length=gs.length + 5 * m + 3:=by simp [sumG,sumTo_length]
def sumWs (n:Nat):Nat→List Int
 | 0=>[]
 | i + 1=>sumWs n i ++ [((n + 5 * i + 3:Nat):Int)]
def sumW (n m:Nat):List Int:=sumWs n m ++ [((n + 5 * m + 2:Nat):Int)]
def notsG (gs:List Gt) (bs:List Int):List Gt:=gs ++ bs.map fun b=>⟨5,b,0⟩
theorem notsG_length (gs:List Gt) (bs:List Int):(notsG gs bs).length=gs.length + bs.length:=by simp [notsG]
def constTo (gs:List Gt) (n:Int):Nat→List Gt
 | 0=>gs
 | i + 1=>constTo gs n i ++ [⟨2,n / (2 ^ i:Nat) % 2,0⟩]
theorem constTo_length (gs:List Gt) (n:Int):∀ i,(constTo gs n i).length=gs.length + i
 | 0=>rfl
 | i + 1=>by rw [constTo,List.length_append,constTo_length gs n i]; simp; omega
def lessG (gs:List Gt) (ws bs:List Int):List Gt:=sumTo (notsG gs bs) ws (upW gs.length 4) 1 4 ++ [⟨5,((gs.length + bs.length + 20:Nat):Int),0⟩]
def eqTo (gs:List Gt) (ws bs:List Int):Nat→List Gt
 | 0=>gs
 | i + 1=>eqTo gs ws bs i ++ [⟨3,ws.getD i 0,bs.getD i 0⟩,⟨5,((gs.length + 2 * i:Nat):Int),0⟩]
theorem eqTo_length (gs:List Gt) (ws bs:List Int):∀ i,(eqTo gs ws bs i).length=gs.length + 2 * i
 | 0=>by simp [eqTo]
 | i + 1=>by rw [eqTo,List.length_append,eqTo_length gs ws bs i]; simp; omega
def eqG (gs:List Gt) (ws bs:List Int):List Gt :=
 eqTo gs ws bs 4 ++ [⟨4,((gs.length + 1:Nat):Int),((gs.length + 3:Nat):Int)⟩,⟨4,((gs.length + 8:Nat):Int),((gs.length + 5:Nat):Int)⟩,⟨4,((gs.length + 9:Nat):Int),((gs.length + 7:Nat):Int)⟩]
def muxTo (gs:List Gt) (s:Int) (ws bs:List Int):Nat→List Gt
 | 0=>gs
 | i + 1=>muxTo gs s ws bs i ++ [⟨3,ws.getD i 0,bs.getD i 0⟩,⟨4,s,((gs.length + 3 * i:Nat):Int)⟩,⟨3,((gs.length + 3 * i + 1:Nat):Int),bs.getD i 0⟩]
theorem muxTo_length (gs:List Gt) (s:Int) (ws bs:List Int):∀ i,(muxTo gs s ws bs i).length=gs.length + 3 * i
 | 0=>by simp [muxTo]
 | i + 1=>by rw [muxTo,List.length_append,muxTo_length gs s ws bs i]; simp; omega
def muxW (n:Nat):Nat→List Int
 | 0=>[]
 | i + 1=>muxW n i ++ [((n + 3 * i + 2:Nat):Int)]
def andsTo (gs:List Gt) (x:Int) (ws:List Int):Nat→List Gt
 | 0=>gs
 | k + 1=>andsTo gs x ws k ++ [⟨4,x,ws.getD k 0⟩]
theorem andsTo_length (gs:List Gt) (x:Int) (ws:List Int):∀ k,(andsTo gs x ws k).length=gs.length + k
 | 0=>rfl
 | k + 1=>by rw [andsTo,List.length_append,andsTo_length gs x ws k]; simp; omega
def mulTo (gs:List Gt) (ws bs:List Int):Nat→List Gt × List Int
 | 0=>(andsTo gs (bs.getD 0 0) ws 4,upW gs.length 4)
 | i + 1 =>
  let p:=mulTo gs ws bs i
  let g:=andsTo p.1 (bs.getD (i + 1) 0) ws (3 - i)
  (sumG g (p.2.drop (i + 1)) (upW p.1.length (3 - i)) 0 (2 - i),p.2.take (i + 1) ++ sumW g.length (2 - i))
def bitTo (gs:List Gt) (k:Int) (ws bs:List Int):Nat→List Gt
 | 0=>gs
 | i + 1=>bitTo gs k ws bs i ++ [⟨k,ws.getD i 0,bs.getD i 0⟩]
theorem bitTo_length (gs:List Gt) (k:Int) (ws bs:List Int):∀ i,(bitTo gs k ws bs i).length=gs.length + i
 | 0=>rfl
 | i + 1=>by rw [bitTo,List.length_append,bitTo_length gs k ws bs i]; simp; omega
def inTo (gs:List Gt) (p n:Int):Nat→List Gt
 | 0=>gs
 | i + 1=>inTo gs p n i ++ [⟨1,(p * 4 + n) * 4 + i,0⟩]
theorem inTo_length (gs:List Gt) (p n:Int):∀ i,(inTo gs p n i).length=gs.length + i
 | 0=>rfl
 | i + 1=>by rw [inTo,List.length_append,inTo_length gs p n i]; simp; omega
theorem gate3 {k a b:Int} {n:Nat} (hk:k=3∨k=4) (ha:wireB n a=true) (hb:wireB n b=true):gateB ⟨k,a,b⟩ n=true:=by
 have h1:=wireB_iff.1 ha
 have h2:=wireB_iff.1 hb
 unfold gateB
 dsimp only
 rw [if_neg (by omega),if_neg (by omega),if_pos hk]
 rw [inB_iff.2 ⟨by omega,by omega⟩,inB_iff.2 ⟨by omega,by omega⟩]
 rfl
theorem gate5 {a:Int} {n:Nat} (ha:wireB n a=true):gateB ⟨5,a,0⟩ n=true:=by
 have h1:=wireB_iff.1 ha
 unfold gateB
 dsimp only
 rw [if_neg (by decide),if_neg (by decide),if_neg (by decide),if_pos rfl,inB_iff.2 ⟨by omega,by omega⟩]
 rfl
theorem gate2 {a:Int} {n:Nat} (ha:a=0∨a=1):gateB ⟨2,a,0⟩ n=true:=by
 unfold gateB
 dsimp only
 rw [if_neg (by decide),if_pos rfl,inB_iff.2 (by omega)]
 rfl
theorem wire_at {n i:Nat} (h:i < n):wireB n ((i:Nat):Int)=true:=wireB_iff.2 (by omega)
theorem full_ok {gs:List Gt} {a b c:Int} (h:gatesB 0 gs=true) (ha:wireB gs.length a=true) (hb:wireB gs.length b=true) (hc:wireB gs.length c=true):gatesB 0 (fullG gs a b c)=true:=by
 unfold fullG
 rw [gatesB_append,h]
 simp only [gatesB,Bool.true_and,Bool.and_true,Bool.and_eq_true,Nat.zero_add]
 exact ⟨gate3 (.inl rfl) ha hc,gate3 (.inl rfl) (wireB_mono hb (by omega)) (wireB_mono hc (by omega)),gate3 (.inl rfl) (wireB_mono ha (by omega)) (wire_at (by omega)),gate3 (.inr rfl) (wire_at (by omega)) (wire_at (by omega)),gate3 (.inl rfl) (wire_at (by omega)) (wireB_mono hc (by omega))⟩
theorem sumTo_ok {gs:List Gt} {ws bs:List Int} {first:Int} (h:gatesB 0 gs=true) (hf:first=0∨first=1):∀ i,(∀ j,j < i→wireB gs.length (ws.getD j 0)=true∧wireB gs.length (bs.getD j 0)=true)→gatesB 0 (sumTo gs ws bs first i)=true
 | 0,_=>gatesB_snoc h (gate2 hf)
 | i + 1,hw=>by
  have hl:=sumTo_length gs ws bs first i
  obtain ⟨h1,h2⟩:=hw i (by omega)
  exact full_ok (sumTo_ok h hf i fun j hj=>hw j (by omega)) (wireB_mono h1 (by omega)) (wireB_mono h2 (by omega)) (wire_at (by omega))
theorem sumG_ok {gs:List Gt} {ws bs:List Int} {first:Int} {m:Nat} (h:gatesB 0 gs=true) (hf:first=0∨first=1) (hw:∀ j,j≤m→wireB gs.length (ws.getD j 0)=true∧wireB gs.length (bs.getD j 0)=true):gatesB 0 (sumG gs ws bs first m)=true:=by
 have hl:=sumTo_length gs ws bs first m
 unfold sumG
 rw [gatesB_append,sumTo_ok h hf m fun j hj=>hw j (by omega)]
 obtain ⟨h1,h2⟩:=hw m (Nat.le_refl _)
 simp only [gatesB,Bool.true_and,Bool.and_true,Bool.and_eq_true,Nat.zero_add]
 exact ⟨gate3 (.inl rfl) (wireB_mono h1 (by omega)) (wireB_mono h2 (by omega)),gate3 (.inl rfl) (wire_at (by omega)) (wire_at (by omega))⟩
theorem nots_ok {gs:List Gt} (h:gatesB 0 gs=true):∀ {bs:List Int},(∀ b∈bs,wireB gs.length b=true)→gatesB 0 (notsG gs bs)=true:=fun {bs} hb=>by
 unfold notsG
 rw [gatesB_append,h,Bool.true_and]
 have:∀ (n:Nat) (l:List Int),gs.length≤n→(∀ b∈l,wireB gs.length b=true)→gatesB n (l.map fun b=>(⟨5,b,0⟩:Gt))=true:=fun n l=>by
  induction l generalizing n with
  | nil=>intro _ _; rfl
  | cons b l ih =>
   intro hn hl
   simp only [List.map_cons,gatesB,Bool.and_eq_true]
   exact ⟨gate5 (wireB_mono (hl b (by simp)) hn),ih (n + 1) (by omega) fun c hc=>hl c (by simp [hc])⟩
 exact this _ bs (by omega) hb
end Go.Proofs.YtihbaieiempjeaaGreat
