/- Lemmas of the proof: Tape, IntS. -/
import Derived.Test.YtihbaieiempjeaaGreatA0
import Derived.Deep.RegionHeld3
import Derived.Outline
import Derived.Laws.OwnMore
import Derived.Laws.MakeOwn
import Derived.OwnWalk
namespace Go.Proofs.YtihbaieiempjeaaGreat
open Go.RowKit
theorem key_tdiv (s a:Int):(keyedI s 7 a).tdiv 256=keyedI s 7 a / 256:=Int.tdiv_eq_ediv_of_nonneg (keyedI_range s 7 a).1
theorem key_tmod (s a n:Int):(keyedI s 7 a / 256).tmod n=keyedI s 7 a / 256 % n:=Int.tmod_eq_emod_of_nonneg (by have:=(keyedI_range s 7 a).1; omega)
theorem key_wrap (s a:Int):wrap64 (keyedI s 7 a / 256)=keyedI s 7 a / 256:=IntWalk.wrap64_in _ (by have:=keyedI_range s 7 a; omega)
theorem key_wrapk (s a:Int):IntKind.i64.wrap (keyedI s 7 a / 256)=keyedI s 7 a / 256:=IntWalk.i64_in _ (by have:=keyedI_range s 7 a; omega)
theorem zero_wrap:wrap64 0=0:=IntWalk.wrap64_in _ (by omega)
theorem zero_wrapk:IntKind.i64.wrap 0=0:=IntWalk.i64_in _ (by omega)
attribute [local go_sem] key_tdiv key_tmod key_wrap key_wrapk zero_wrap zero_wrapk
def wordI (s a:Int):Int:=pick (tapeGoB s a) (keyedI s 7 a) 0
def wordAt (s a:Int):Int:=pick (tapeGoB s a) (a + 1) a
theorem wrap_a1 {a:Int} (h0:0≤a) (h1:a≤1000000):IntKind.i64.wrap (a + 1)=a + 1:=IntWalk.i64_in _ (by omega)
attribute [local go_sem] wrap_a1
set_option maxHeartbeats 800000 in
theorem iTapeWord (s a:Int) (w:World) :
  Calls Tryz.prog 189 #[.agg #[.int .i64 s,.int .i64 a]] w fun e w'=>e=.returned (.tuple #[.int .i64 (wordI s a),.agg #[.int .i64 s,.int .i64 (wordAt s a)]])∧Below w.heap.size w w':=by
 cases h1:tapeOkB s a; rotate_left
 cases h2:(a == 1000000)
 ·have e1:wordI s a=keyedI s 7 a:=by unfold wordI tapeGoB; rw [h1,h2]; rfl
  have e2:wordAt s a=a + 1:=by unfold wordAt tapeGoB; rw [h1,h2]; rfl
  obtain ⟨hr0,hr1⟩:=tapeOkB_range h1
  rw [e1,e2]
  clear e1 e2
  go_enter Tryz.func189,Tryz.ntmps189
  have b_0:=(Below.refl w.heap.size w)
  have s_0:=b_0.size
  go_wp2_with fail
  refine calls_forget2 (W:=w) (b0:=w.heap.size) (t0:=27) (c0:=#[.int .i64 s,.int .i64 a]) (b1:=w.heap.size + 1) (t1:=27) (c1:=#[.int .i64 0,.int .i64 0]) ?_ ?_ ?_ ?_
  (focus exact blkcBy)
  (focus exact blkcBy)
  (focus (exact belBy))
  intro X1 t_n r_n hX1
  have sX1:=hX1.size
  have t_lt:=t_n.lt
  have r_lt:=r_n.lt
  refine (iTapeOk _ _ _).mono ?_
  rintro e w1 ⟨rfl,hb1⟩
  have s1:=hb1.size
  have hT1:=hX1.trans (hb1.mono sX1)
  have b_1:=b_0.trans (hT1.mono (by omega))
  have t_1:=Blk.past hb1 t_n
  have r_1:=Blk.past hb1 r_n
  clear b_0 t_n r_n hX1 hT1 hb1
  have cell_t:=t_1.cell
  have froz_t:=t_1.frozen
  have lt_t:=t_1.lt
  have cell_r:=r_1.cell
  have froz_r:=r_1.frozen
  have lt_r:=r_1.lt
  go_wp2_with fail
  go_region_held3 (fun w'=>w'.cell? ⟨w.heap.size,0,none⟩=some (.int .i64 s)∧w'.cell? ⟨w.heap.size,1,none⟩=some (.int .i64 a)) ((refine ⟨(Blk.cell (t:=27) (cs:=#[.int .i64 s,.int .i64 a]) ?qt 0),(Blk.cell ?qt 1)⟩; (case qt=>(exact blkBy)))) (first | (go_at_call 57; refine (iKeyed _ _ _ _).mono ?_; rintro e w' ⟨rfl,rfl⟩))
  all_goals
   go_wp2_with fail
   ((try simp only [Exit.inBlock,Exit.then]); apply bodyPost_ret0; focus ((try simp only [results,Tryz.results189]); (try go_simp); (try rfl)))
   refine ⟨rfl,?_⟩
   exact belBy
 all_goals
  have e1:wordI s a=0:=by
   unfold wordI tapeGoB
   first | (rw [h2]; simp; done) | (rw [h1]; simp; done)
  have e2:wordAt s a=a:=by
   unfold wordAt tapeGoB
   first | (rw [h2]; simp; done) | (rw [h1]; simp; done)
  rw [e1,e2]
  clear e1 e2
  go_enter Tryz.func189,Tryz.ntmps189
  have b_0:=(Below.refl w.heap.size w)
  have s_0:=b_0.size
  go_wp2_with fail
  refine calls_forget2 (W:=w) (b0:=w.heap.size) (t0:=27) (c0:=#[.int .i64 s,.int .i64 a]) (b1:=w.heap.size + 1) (t1:=27) (c1:=#[.int .i64 0,.int .i64 0]) ?_ ?_ ?_ ?_
  (focus exact blkcBy)
  (focus exact blkcBy)
  (focus (exact belBy))
  intro X1 t_n r_n hX1
  have sX1:=hX1.size
  have t_lt:=t_n.lt
  have r_lt:=r_n.lt
  refine (iTapeOk _ _ _).mono ?_
  rintro e w1 ⟨rfl,hb1⟩
  have s1:=hb1.size
  have hT1:=hX1.trans (hb1.mono sX1)
  have b_1:=b_0.trans (hT1.mono (by omega))
  have t_1:=Blk.past hb1 t_n
  have r_1:=Blk.past hb1 r_n
  clear b_0 t_n r_n hX1 hT1 hb1
  have cell_t:=t_1.cell
  have froz_t:=t_1.frozen
  have lt_t:=t_1.lt
  have cell_r:=r_1.cell
  have froz_r:=r_1.frozen
  have lt_r:=r_1.lt
  go_wp2_with fail
  go_region_held3 (fun w'=>w'.cell? ⟨w.heap.size,0,none⟩=some (.int .i64 s)∧w'.cell? ⟨w.heap.size,1,none⟩=some (.int .i64 a)) ((refine ⟨(Blk.cell (t:=27) (cs:=#[.int .i64 s,.int .i64 a]) ?qt 0),(Blk.cell ?qt 1)⟩; (case qt=>(exact blkBy)))) (fail)
  all_goals
   go_wp2_with fail
   ((try simp only [Exit.inBlock,Exit.then]); apply bodyPost_ret0; focus ((try simp only [results,Tryz.results189]); (try go_simp); (try rfl)))
   refine ⟨rfl,?_⟩
   exact belBy
set_option maxHeartbeats 800000 in
theorem sTapeWord (s a:Int) (w:World) :
  Calls Tryz.prog 191 #[.agg #[.int .i64 s,.int .i64 a]] w fun e w'=>e=.returned (.tuple #[.int .i64 (wordI s a),.agg #[.int .i64 s,.int .i64 (wordAt s a)]])∧Below w.heap.size w w':=by
 cases h1:tapeOkB s a; rotate_left
 cases h2:(a == 1000000)
 ·have e1:wordI s a=keyedI s 7 a:=by unfold wordI tapeGoB; rw [h1,h2]; rfl
  have e2:wordAt s a=a + 1:=by unfold wordAt tapeGoB; rw [h1,h2]; rfl
  obtain ⟨hr0,hr1⟩:=tapeOkB_range h1
  rw [e1,e2]
  clear e1 e2
  go_enter Tryz.func191,Tryz.ntmps191
  have b_0:=(Below.refl w.heap.size w)
  have s_0:=b_0.size
  go_wp2_with fail
  refine calls_forget2 (W:=w) (b0:=w.heap.size) (t0:=27) (c0:=#[.int .i64 s,.int .i64 a]) (b1:=w.heap.size + 1) (t1:=27) (c1:=#[.int .i64 0,.int .i64 0]) ?_ ?_ ?_ ?_
  (focus exact blkcBy)
  (focus exact blkcBy)
  (focus (exact belBy))
  intro X1 t_n r_n hX1
  have sX1:=hX1.size
  have t_lt:=t_n.lt
  have r_lt:=r_n.lt
  refine (sTapeOk _ _ _).mono ?_
  rintro e w1 ⟨rfl,hb1⟩
  have s1:=hb1.size
  have hT1:=hX1.trans (hb1.mono sX1)
  have b_1:=b_0.trans (hT1.mono (by omega))
  have t_1:=Blk.past hb1 t_n
  have r_1:=Blk.past hb1 r_n
  clear b_0 t_n r_n hX1 hT1 hb1
  have cell_t:=t_1.cell
  have froz_t:=t_1.frozen
  have lt_t:=t_1.lt
  have cell_r:=r_1.cell
  have froz_r:=r_1.frozen
  have lt_r:=r_1.lt
  go_wp2_with fail
  go_region_held3 (fun w'=>w'.cell? ⟨w.heap.size,0,none⟩=some (.int .i64 s)∧w'.cell? ⟨w.heap.size,1,none⟩=some (.int .i64 a)) ((refine ⟨(Blk.cell (t:=27) (cs:=#[.int .i64 s,.int .i64 a]) ?qt 0),(Blk.cell ?qt 1)⟩; (case qt=>(exact blkBy)))) (first | (go_at_call 182; refine (sKeyed _ _ _ _).mono ?_; rintro e w' ⟨rfl,rfl⟩))
  all_goals
   go_wp2_with fail
   ((try simp only [Exit.inBlock,Exit.then]); apply bodyPost_ret0; focus ((try simp only [results,Tryz.results191]); (try go_simp); (try rfl)))
   refine ⟨rfl,?_⟩
   exact belBy
 all_goals
  have e1:wordI s a=0:=by
   unfold wordI tapeGoB
   first | (rw [h2]; simp; done) | (rw [h1]; simp; done)
  have e2:wordAt s a=a:=by
   unfold wordAt tapeGoB
   first | (rw [h2]; simp; done) | (rw [h1]; simp; done)
  rw [e1,e2]
  clear e1 e2
  go_enter Tryz.func191,Tryz.ntmps191
  have b_0:=(Below.refl w.heap.size w)
  have s_0:=b_0.size
  go_wp2_with fail
  refine calls_forget2 (W:=w) (b0:=w.heap.size) (t0:=27) (c0:=#[.int .i64 s,.int .i64 a]) (b1:=w.heap.size + 1) (t1:=27) (c1:=#[.int .i64 0,.int .i64 0]) ?_ ?_ ?_ ?_
  (focus exact blkcBy)
  (focus exact blkcBy)
  (focus (exact belBy))
  intro X1 t_n r_n hX1
  have sX1:=hX1.size
  have t_lt:=t_n.lt
  have r_lt:=r_n.lt
  refine (sTapeOk _ _ _).mono ?_
  rintro e w1 ⟨rfl,hb1⟩
  have s1:=hb1.size
  have hT1:=hX1.trans (hb1.mono sX1)
  have b_1:=b_0.trans (hT1.mono (by omega))
  have t_1:=Blk.past hb1 t_n
  have r_1:=Blk.past hb1 r_n
  clear b_0 t_n r_n hX1 hT1 hb1
  have cell_t:=t_1.cell
  have froz_t:=t_1.frozen
  have lt_t:=t_1.lt
  have cell_r:=r_1.cell
  have froz_r:=r_1.frozen
  have lt_r:=r_1.lt
  go_wp2_with fail
  go_region_held3 (fun w'=>w'.cell? ⟨w.heap.size,0,none⟩=some (.int .i64 s)∧w'.cell? ⟨w.heap.size,1,none⟩=some (.int .i64 a)) ((refine ⟨(Blk.cell (t:=27) (cs:=#[.int .i64 s,.int .i64 a]) ?qt 0),(Blk.cell ?qt 1)⟩; (case qt=>(exact blkBy)))) (fail)
  all_goals
   go_wp2_with fail
   ((try simp only [Exit.inBlock,Exit.then]); apply bodyPost_ret0; focus ((try simp only [results,Tryz.results191]); (try go_simp); (try rfl)))
   refine ⟨rfl,?_⟩
   exact belBy
theorem below_yes {s a n:Int} (h1:inB n 1 65536=true) (h2:tapeGoB s a=true):belowI s a n=keyedI s 7 a / 256 % n∧belowAt s a n=a + 1:=by
 unfold belowI belowAt belowB
 rw [h1,h2]
 exact ⟨rfl,rfl⟩
theorem below_noN {s a n:Int} (h1:inB n 1 65536=false):belowI s a n=0∧belowAt s a n=a:=by
 unfold belowI belowAt belowB
 rw [h1]
 exact ⟨rfl,rfl⟩
theorem below_noT {s a n:Int} (h2:tapeGoB s a=false):belowI s a n=0∧belowAt s a n=a:=by
 unfold belowI belowAt belowB
 rw [h2]
 simp
theorem word_yes {s a:Int} (h2:tapeGoB s a=true):wordI s a=keyedI s 7 a∧wordAt s a=a + 1:=by unfold wordI wordAt; rw [h2]; exact ⟨rfl,rfl⟩
theorem word_no {s a:Int} (h2:tapeGoB s a=false):wordI s a=0∧wordAt s a=a:=by unfold wordI wordAt; rw [h2]; exact ⟨rfl,rfl⟩
theorem go_yes {s a:Int} (h1:tapeOkB s a=true) (h2:(a == 1000000)=false):tapeGoB s a=true:=by unfold tapeGoB; rw [h1,h2]; rfl
theorem go_noO {s a:Int} (h1:tapeOkB s a=false):tapeGoB s a=false:=by unfold tapeGoB; rw [h1]; rfl
theorem go_noE {s a:Int} (h2:(a == 1000000)=true):tapeGoB s a=false:=by unfold tapeGoB; rw [h2]; simp
theorem iTapeWord_yes (s a:Int) (w:World) (h:tapeGoB s a=true) :
  Calls Tryz.prog 189 #[.agg #[.int .i64 s,.int .i64 a]] w fun e w'=>e=.returned (.tuple #[.int .i64 (keyedI s 7 a),.agg #[.int .i64 s,.int .i64 (a + 1)]])∧Below w.heap.size w w':=by
 have h0:=iTapeWord s a w
 rw [(word_yes h).1,(word_yes h).2] at h0
 exact h0
theorem sTapeWord_yes (s a:Int) (w:World) (h:tapeGoB s a=true) :
  Calls Tryz.prog 191 #[.agg #[.int .i64 s,.int .i64 a]] w fun e w'=>e=.returned (.tuple #[.int .i64 (keyedI s 7 a),.agg #[.int .i64 s,.int .i64 (a + 1)]])∧Below w.heap.size w w':=by
 have h0:=sTapeWord s a w
 rw [(word_yes h).1,(word_yes h).2] at h0
 exact h0
theorem sTapeWord_no (s a:Int) (w:World) (h:tapeGoB s a=false) :
  Calls Tryz.prog 191 #[.agg #[.int .i64 s,.int .i64 a]] w fun e w'=>e=.returned (.tuple #[.int .i64 0,.agg #[.int .i64 s,.int .i64 a]])∧Below w.heap.size w w':=by
 have h0:=sTapeWord s a w
 rw [(word_no h).1,(word_no h).2] at h0
 exact h0
theorem zero_tdiv:(0:Int).tdiv 256=0:=by decide
theorem zero_tmod (n:Int):(0:Int).tmod n=0:=by simp
attribute [local go_sem] zero_tdiv zero_tmod
set_option maxHeartbeats 1600000 in
theorem iTapeBelow (s a n:Int) (w:World) :
  Calls Tryz.prog 167 #[.agg #[.int .i64 s,.int .i64 a],.int .i64 n] w fun e w'=>e=.returned (.tuple #[.int .i64 (belowI s a n),.agg #[.int .i64 s,.int .i64 (belowAt s a n)]])∧Below w.heap.size w w':=by
 cases h0:inB n 1 65536
 ·rw [(below_noN h0).1,(below_noN h0).2]
  go_enter Tryz.func167,Tryz.ntmps167
  go_wp2_with (go_at_call 56; refine (iWithin _ _ _ _).mono ?_; rintro e w' ⟨rfl,rfl⟩)
  have b_0:=(Below.refl w.heap.size w)
  have s_0:=b_0.size
  refine wp_forget2 (w0:=w) (B:=w.heap.size) (b0:=w.heap.size) (t0:=27) (c0:=#[.int .i64 s,.int .i64 a]) (b1:=w.heap.size + 1) (t1:=27) (c1:=#[.int .i64 0,.int .i64 0]) ?_ ?_ ?_ ?_
  (focus exact blkcBy)
  (focus exact blkcBy)
  (focus (exact belBy))
  intro w1 t_1 r_1 hX1
  have sX1:=hX1.size
  have t_lt:=t_1.lt
  have r_lt:=r_1.lt
  have b_1:=b_0.trans (hX1.mono (by omega))
  clear b_0 hX1
  have cell_t:=t_1.cell
  have froz_t:=t_1.frozen
  have lt_t:=t_1.lt
  have cell_r:=r_1.cell
  have froz_r:=r_1.frozen
  have lt_r:=r_1.lt
  go_wp2_with fail
  go_region_held3 (fun w'=>w'.cell? ⟨w.heap.size,0,none⟩=some (.int .i64 s)∧w'.cell? ⟨w.heap.size,1,none⟩=some (.int .i64 a)) ((refine ⟨(Blk.cell (t:=27) (cs:=#[.int .i64 s,.int .i64 a]) ?qt 0),(Blk.cell ?qt 1)⟩; (case qt=>(exact blkBy)))) (fail)
  all_goals
   go_wp2_with fail
   ((try simp only [Exit.inBlock,Exit.then]); apply bodyPost_ret0; focus ((try simp only [results,Tryz.results167]); (try go_simp); (try rfl)))
   refine ⟨rfl,?_⟩
   exact belBy
 obtain ⟨n0,n1⟩:=inB_iff.1 h0
 have hn0:¬ (n=0):=by omega
 cases h1:tapeOkB s a; rotate_left
 cases h2:(a == 1000000)
 ·have hg:=go_yes h1 h2
  rw [(below_yes h0 hg).1,(below_yes h0 hg).2]
  have HG:=hid hg
  clear hg
  obtain ⟨hr0,hr1⟩:=tapeOkB_range h1
  go_enter Tryz.func167,Tryz.ntmps167
  go_wp2_with (go_at_call 56; refine (iWithin _ _ _ _).mono ?_; rintro e w' ⟨rfl,rfl⟩)
  have b_0:=(Below.refl w.heap.size w)
  have s_0:=b_0.size
  go_wp2_with fail
  refine calls_forget2 (W:=w) (b0:=w.heap.size) (t0:=27) (c0:=#[.int .i64 s,.int .i64 a]) (b1:=w.heap.size + 1) (t1:=27) (c1:=#[.int .i64 0,.int .i64 0]) ?_ ?_ ?_ ?_
  (focus exact blkcBy)
  (focus exact blkcBy)
  (focus (exact belBy))
  intro X1 t_n r_n hX1
  have sX1:=hX1.size
  have t_lt:=t_n.lt
  have r_lt:=r_n.lt
  refine (iTapeOk _ _ _).mono ?_
  rintro e w1 ⟨rfl,hb1⟩
  have s1:=hb1.size
  have hT1:=hX1.trans (hb1.mono sX1)
  have b_1:=b_0.trans (hT1.mono (by omega))
  have t_1:=Blk.past hb1 t_n
  have r_1:=Blk.past hb1 r_n
  clear b_0 t_n r_n hX1 hT1 hb1
  have cell_t:=t_1.cell
  have froz_t:=t_1.frozen
  have lt_t:=t_1.lt
  have cell_r:=r_1.cell
  have froz_r:=r_1.frozen
  have lt_r:=r_1.lt
  go_wp2_with fail
  refine calls_forget0 (W:=w1) ?_ ?_
  (focus (exact belBy))
  intro X2 hX2
  have sX2:=hX2.size
  refine (iTapeWord_yes _ _ _ HG.out).mono ?_
  rintro e w2 ⟨rfl,hb2⟩
  have s2:=hb2.size
  have hT2:=hX2.trans (hb2.mono sX2)
  have b_2:=b_1.trans (hT2.mono (by omega))
  have t_2:=Blk.past hT2 t_1
  have r_2:=Blk.past hT2 r_1
  clear t_1 r_1 b_1 cell_t froz_t lt_t cell_r froz_r lt_r hX2 hT2 hb2
  have cell_t:=t_2.cell
  have froz_t:=t_2.frozen
  have lt_t:=t_2.lt
  have cell_r:=r_2.cell
  have froz_r:=r_2.frozen
  have lt_r:=r_2.lt
  go_wp2_with fail
  refine wp_forget1 (w0:=w2) (B:=w2.heap.size) (b0:=w2.heap.size) (t0:=27) (c0:=#[.int .i64 s,.int .i64 (a + 1)]) ?_ ?_ ?_
  (focus exact blkcBy)
  (focus (exact belBy))
  intro w3 nx_3 hX3
  have sX3:=hX3.size
  have nx_lt:=nx_3.lt
  have b_3:=b_2.trans (hX3.mono (by omega))
  have t_3:=Blk.past hX3 t_2
  have r_3:=Blk.past hX3 r_2
  clear t_2 r_2 b_2 cell_t froz_t lt_t cell_r froz_r lt_r hX3
  have cell_t:=t_3.cell
  have froz_t:=t_3.frozen
  have lt_t:=t_3.lt
  have cell_r:=r_3.cell
  have froz_r:=r_3.frozen
  have lt_r:=r_3.lt
  have cell_nx:=nx_3.cell
  have froz_nx:=nx_3.frozen
  have lt_nx:=nx_3.lt
  go_wp2_with fail
  go_region_held3 (fun w'=>w'.cell? ⟨w2.heap.size,0,none⟩=some (.int .i64 s)∧w'.cell? ⟨w2.heap.size,1,none⟩=some (.int .i64 (a + 1))) ((refine ⟨(Blk.cell (t:=27) (cs:=#[.int .i64 s,.int .i64 (a + 1)]) ?qnx 0),(Blk.cell ?qnx 1)⟩; (case qnx=>(exact blkBy)))) (fail)
  all_goals
   go_wp2_with fail
   ((try simp only [Exit.inBlock,Exit.then]); apply bodyPost_ret0; focus ((try simp only [results,Tryz.results167]); (try go_simp); (try rfl)))
   refine ⟨rfl,?_⟩
   exact belBy
 all_goals
  have hg:tapeGoB s a=false:=by first | exact go_noO h1 | exact go_noE h2
  rw [(below_noT hg).1,(below_noT hg).2]
  clear hg
  go_enter Tryz.func167,Tryz.ntmps167
  go_wp2_with (go_at_call 56; refine (iWithin _ _ _ _).mono ?_; rintro e w' ⟨rfl,rfl⟩)
  have b_0:=(Below.refl w.heap.size w)
  have s_0:=b_0.size
  go_wp2_with fail
  refine calls_forget2 (W:=w) (b0:=w.heap.size) (t0:=27) (c0:=#[.int .i64 s,.int .i64 a]) (b1:=w.heap.size + 1) (t1:=27) (c1:=#[.int .i64 0,.int .i64 0]) ?_ ?_ ?_ ?_
  (focus exact blkcBy)
  (focus exact blkcBy)
  (focus (exact belBy))
  intro X1 t_n r_n hX1
  have sX1:=hX1.size
  have t_lt:=t_n.lt
  have r_lt:=r_n.lt
  refine (iTapeOk _ _ _).mono ?_
  rintro e w1 ⟨rfl,hb1⟩
  have s1:=hb1.size
  have hT1:=hX1.trans (hb1.mono sX1)
  have b_1:=b_0.trans (hT1.mono (by omega))
  have t_1:=Blk.past hb1 t_n
  have r_1:=Blk.past hb1 r_n
  clear b_0 t_n r_n hX1 hT1 hb1
  have cell_t:=t_1.cell
  have froz_t:=t_1.frozen
  have lt_t:=t_1.lt
  have cell_r:=r_1.cell
  have froz_r:=r_1.frozen
  have lt_r:=r_1.lt
  go_wp2_with fail
  go_region_held3 (fun w'=>w'.cell? ⟨w.heap.size,0,none⟩=some (.int .i64 s)∧w'.cell? ⟨w.heap.size,1,none⟩=some (.int .i64 a)) ((refine ⟨(Blk.cell (t:=27) (cs:=#[.int .i64 s,.int .i64 a]) ?qt 0),(Blk.cell ?qt 1)⟩; (case qt=>(exact blkBy)))) (fail)
  all_goals
   go_wp2_with fail
   ((try simp only [Exit.inBlock,Exit.then]); apply bodyPost_ret0; focus ((try simp only [results,Tryz.results167]); (try go_simp); (try rfl)))
   refine ⟨rfl,?_⟩
   exact belBy
set_option maxHeartbeats 1600000 in
theorem sTapeBelow (s a n:Int) (w:World) :
  Calls Tryz.prog 179 #[.agg #[.int .i64 s,.int .i64 a],.int .i64 n] w fun e w'=>e=.returned (.tuple #[.int .i64 (belowI s a n),.agg #[.int .i64 s,.int .i64 (belowAt s a n)]])∧Below w.heap.size w w':=by
 cases h0:inB n 1 65536
 ·rw [(below_noN h0).1,(below_noN h0).2]
  go_enter Tryz.func179,Tryz.ntmps179
  go_wp2_with (go_at_call 123; refine (sWithin _ _ _ _).mono ?_; rintro e w' ⟨rfl,rfl⟩)
  have b_0:=(Below.refl w.heap.size w)
  have s_0:=b_0.size
  refine wp_forget2 (w0:=w) (B:=w.heap.size) (b0:=w.heap.size) (t0:=27) (c0:=#[.int .i64 s,.int .i64 a]) (b1:=w.heap.size + 1) (t1:=27) (c1:=#[.int .i64 0,.int .i64 0]) ?_ ?_ ?_ ?_
  (focus exact blkcBy)
  (focus exact blkcBy)
  (focus (exact belBy))
  intro w1 t_1 r_1 hX1
  have sX1:=hX1.size
  have t_lt:=t_1.lt
  have r_lt:=r_1.lt
  have b_1:=b_0.trans (hX1.mono (by omega))
  clear b_0 hX1
  have cell_t:=t_1.cell
  have froz_t:=t_1.frozen
  have lt_t:=t_1.lt
  have cell_r:=r_1.cell
  have froz_r:=r_1.frozen
  have lt_r:=r_1.lt
  go_wp2_with fail
  go_region_held3 (fun w'=>w'.cell? ⟨w.heap.size,0,none⟩=some (.int .i64 s)∧w'.cell? ⟨w.heap.size,1,none⟩=some (.int .i64 a)) ((refine ⟨(Blk.cell (t:=27) (cs:=#[.int .i64 s,.int .i64 a]) ?qt 0),(Blk.cell ?qt 1)⟩; (case qt=>(exact blkBy)))) (fail)
  all_goals
   go_wp2_with fail
   ((try simp only [Exit.inBlock,Exit.then]); apply bodyPost_ret0; focus ((try simp only [results,Tryz.results179]); (try go_simp); (try rfl)))
   refine ⟨rfl,?_⟩
   exact belBy
 obtain ⟨n0,n1⟩:=inB_iff.1 h0
 have hn0:¬ (n=0):=by omega
 cases hg:tapeGoB s a
 ·rw [(below_noT hg).1,(below_noT hg).2]
  have HG:=hid hg
  clear hg
  go_enter Tryz.func179,Tryz.ntmps179
  go_wp2_with (go_at_call 123; refine (sWithin _ _ _ _).mono ?_; rintro e w' ⟨rfl,rfl⟩)
  have b_0:=(Below.refl w.heap.size w)
  have s_0:=b_0.size
  go_wp2_with fail
  refine calls_forget2 (W:=w) (b0:=w.heap.size) (t0:=27) (c0:=#[.int .i64 s,.int .i64 a]) (b1:=w.heap.size + 1) (t1:=27) (c1:=#[.int .i64 0,.int .i64 0]) ?_ ?_ ?_ ?_
  (focus exact blkcBy)
  (focus exact blkcBy)
  (focus (exact belBy))
  intro X1 t_n r_n hX1
  have sX1:=hX1.size
  have t_lt:=t_n.lt
  have r_lt:=r_n.lt
  refine (sTapeWord_no _ _ _ HG.out).mono ?_
  rintro e w1 ⟨rfl,hb1⟩
  have s1:=hb1.size
  have hT1:=hX1.trans (hb1.mono sX1)
  have b_1:=b_0.trans (hT1.mono (by omega))
  have t_1:=Blk.past hb1 t_n
  have r_1:=Blk.past hb1 r_n
  clear b_0 t_n r_n hX1 hT1 hb1
  have cell_t:=t_1.cell
  have froz_t:=t_1.frozen
  have lt_t:=t_1.lt
  have cell_r:=r_1.cell
  have froz_r:=r_1.frozen
  have lt_r:=r_1.lt
  go_wp2_with fail
  refine wp_forget1 (w0:=w1) (B:=w1.heap.size) (b0:=w1.heap.size) (t0:=27) (c0:=#[.int .i64 s,.int .i64 a]) ?_ ?_ ?_
  (focus exact blkcBy)
  (focus (exact belBy))
  intro w2 nx_2 hX2
  have sX2:=hX2.size
  have nx_lt:=nx_2.lt
  have b_2:=b_1.trans (hX2.mono (by omega))
  have t_2:=Blk.past hX2 t_1
  have r_2:=Blk.past hX2 r_1
  clear t_1 r_1 b_1 cell_t froz_t lt_t cell_r froz_r lt_r hX2
  have cell_t:=t_2.cell
  have froz_t:=t_2.frozen
  have lt_t:=t_2.lt
  have cell_r:=r_2.cell
  have froz_r:=r_2.frozen
  have lt_r:=r_2.lt
  have cell_nx:=nx_2.cell
  have froz_nx:=nx_2.frozen
  have lt_nx:=nx_2.lt
  go_wp2_with fail
  go_region_held3 (fun w'=>w'.cell? ⟨w1.heap.size,0,none⟩=some (.int .i64 s)∧w'.cell? ⟨w1.heap.size,1,none⟩=some (.int .i64 a)) ((refine ⟨(Blk.cell (t:=27) (cs:=#[.int .i64 s,.int .i64 a]) ?qnx 0),(Blk.cell ?qnx 1)⟩; (case qnx=>(exact blkBy)))) (fail)
  all_goals
   go_wp2_with fail
   ((try simp only [Exit.inBlock,Exit.then]); apply bodyPost_ret0; focus ((try simp only [results,Tryz.results179]); (try go_simp); (try rfl)))
   refine ⟨rfl,?_⟩
   exact belBy
 ·rw [(below_yes h0 hg).1,(below_yes h0 hg).2]
  have HG:=hid hg
  clear hg
  go_enter Tryz.func179,Tryz.ntmps179
  go_wp2_with (go_at_call 123; refine (sWithin _ _ _ _).mono ?_; rintro e w' ⟨rfl,rfl⟩)
  have b_0:=(Below.refl w.heap.size w)
  have s_0:=b_0.size
  go_wp2_with fail
  refine calls_forget2 (W:=w) (b0:=w.heap.size) (t0:=27) (c0:=#[.int .i64 s,.int .i64 a]) (b1:=w.heap.size + 1) (t1:=27) (c1:=#[.int .i64 0,.int .i64 0]) ?_ ?_ ?_ ?_
  (focus exact blkcBy)
  (focus exact blkcBy)
  (focus (exact belBy))
  intro X1 t_n r_n hX1
  have sX1:=hX1.size
  have t_lt:=t_n.lt
  have r_lt:=r_n.lt
  refine (sTapeWord_yes _ _ _ HG.out).mono ?_
  rintro e w1 ⟨rfl,hb1⟩
  have s1:=hb1.size
  have hT1:=hX1.trans (hb1.mono sX1)
  have b_1:=b_0.trans (hT1.mono (by omega))
  have t_1:=Blk.past hb1 t_n
  have r_1:=Blk.past hb1 r_n
  clear b_0 t_n r_n hX1 hT1 hb1
  have cell_t:=t_1.cell
  have froz_t:=t_1.frozen
  have lt_t:=t_1.lt
  have cell_r:=r_1.cell
  have froz_r:=r_1.frozen
  have lt_r:=r_1.lt
  go_wp2_with fail
  refine wp_forget1 (w0:=w1) (B:=w1.heap.size) (b0:=w1.heap.size) (t0:=27) (c0:=#[.int .i64 s,.int .i64 (a + 1)]) ?_ ?_ ?_
  (focus exact blkcBy)
  (focus (exact belBy))
  intro w2 nx_2 hX2
  have sX2:=hX2.size
  have nx_lt:=nx_2.lt
  have b_2:=b_1.trans (hX2.mono (by omega))
  have t_2:=Blk.past hX2 t_1
  have r_2:=Blk.past hX2 r_1
  clear t_1 r_1 b_1 cell_t froz_t lt_t cell_r froz_r lt_r hX2
  have cell_t:=t_2.cell
  have froz_t:=t_2.frozen
  have lt_t:=t_2.lt
  have cell_r:=r_2.cell
  have froz_r:=r_2.frozen
  have lt_r:=r_2.lt
  have cell_nx:=nx_2.cell
  have froz_nx:=nx_2.frozen
  have lt_nx:=nx_2.lt
  go_wp2_with fail
  go_region_held3 (fun w'=>w'.cell? ⟨w1.heap.size,0,none⟩=some (.int .i64 s)∧w'.cell? ⟨w1.heap.size,1,none⟩=some (.int .i64 (a + 1))) ((refine ⟨(Blk.cell (t:=27) (cs:=#[.int .i64 s,.int .i64 (a + 1)]) ?qnx 0),(Blk.cell ?qnx 1)⟩; (case qnx=>(exact blkBy)))) (fail)
  all_goals
   go_wp2_with fail
   ((try simp only [Exit.inBlock,Exit.then]); apply bodyPost_ret0; focus ((try simp only [results,Tryz.results179]); (try go_simp); (try rfl)))
   refine ⟨rfl,?_⟩
   exact belBy
open Go.RowKit
theorem infoInt:(Tryz.prog.info? 3).map (fun i=>(i.zero,i.size,i.bytes))=some (some (.int .i64 0),1,8):=by kernel_rfl
def copyTo (xs:List Int) (k:Nat):List Value:=ints (xs.take k) ++ List.replicate (xs.length - k) (.int .i64 0)
theorem copyTo_zero (xs:List Int):copyTo xs 0=List.replicate xs.length (.int .i64 0):=by simp [copyTo,ints]
theorem copyTo_all (xs:List Int):copyTo xs xs.length=ints xs:=by simp [copyTo]
theorem copyTo_set {xs:List Int} {k:Nat} {x:Int} (h:xs[k]? = some x):(copyTo xs k).set k (.int .i64 x)=copyTo xs (k + 1):=by
 have hk:k < xs.length:=(List.getElem?_eq_some_iff.1 h).1
 have e:xs.length - k=(xs.length - (k + 1)) + 1:=by omega
 unfold copyTo
 rw [take_snoc h,ints_snoc,e,List.replicate_succ,List.set_append_right _ _ (by simp [ints]; omega)]
 simp [ints,Nat.min_eq_left (Nat.le_of_lt hk)]
def markTo (k:Int) (vs:List Value) (j:Nat):List Value:=ints (marks k j) ++ vs.drop j
theorem markTo_zero (k:Int) (vs:List Value):markTo k vs 0=vs:=by simp [markTo,ints,marks]
theorem markTo_all (k:Int) (vs:List Value) (n:Nat) (h:vs.length=n):markTo k vs n=ints (marks k n):=by simp [markTo,←h]
theorem markTo_set {k:Int} {vs:List Value} {j:Nat} (h:j < vs.length):(markTo k vs j).set j (.int .i64 (k + j))=markTo k vs (j + 1):=by
 unfold markTo
 have e:vs.drop j=vs[j] :: vs.drop (j + 1):=List.drop_eq_getElem_cons h
 rw [e,List.set_append_right _ _ (by rw [ints_length,marks_length]; omega),ints_length,marks_length,Nat.sub_self,List.set_cons_zero]
 show _=ints (marks k j ++ [k + j]) ++ _
 rw [ints_snoc,List.append_assoc]
 rfl
def GivesInts (w:World) (xs:List Int) (e:Ending) (w':World):Prop :=
 ∃ A c,e=.returned (.slice A xs.length c)∧w'.ownsRow w.heap.size 3 1 (.slice A xs.length c) xs.length (ints xs)∧Below w.heap.size w w'
theorem toIntS_any (A:Option Addr) (c:Nat) (xs:List Int) (w:World) (hc:Cells w w.heap.size A (ints xs)) (hn:xs.length≤1048576) :
  Calls Tryz.prog 71 #[.slice A xs.length c] w fun e w'=>e=.returned (.slice (some ⟨w.heap.size,0,none⟩) xs.length xs.length) ∧
   w'.ownsRow w.heap.size 3 1 (.slice (some ⟨w.heap.size,0,none⟩) xs.length xs.length) xs.length (ints xs)∧Below w.heap.size w w':=by
 obtain ⟨i0,hi,hz0,hz1,hz2⟩:=info_parts infoInt
 go_enter Tryz.func71,Tryz.ntmps71
 go_wp2_with (at_make; refine wpList_make_full _ rfl _ _ 30 rfl w.heap.size 3 i0 (.int .i64 0) 1 Tryz.underlying30 hi hz0 hz1 _ _ _ _ xs.length rfl rfl rfl rfl (by rw [hz2]; omega) (by unfold maxLen; omega) (Nat.le_refl _) ?_)
 intro w1 hown1 hg1
 have hb1:Below w.heap.size w w1:=(Below.refl _ _).grown hg1 (Nat.le_refl _) (fun k hk=>by cases hk)
 have hsz1:=hb1.size
 have hL:(madeCells #[Value.int IntKind.i64 0] xs.length).toList=copyTo xs 0:=by
  rw [copyTo_zero]; exact toList_madeCells_one _ _
 rw [hL] at hown1
 clear hL hg1 hi hz0 hz1 hz2
 go_wp2
 go_loopw [4] (fun i wr=>∃ k:Nat,k≤xs.length∧i=.int .i64 k∧wr.ownsRow w.heap.size 3 1 (.slice (some ⟨w.heap.size,0,none⟩) xs.length xs.length) xs.length (copyTo xs k)∧Below w.heap.size w wr) (fun i _=>xs.length - (intOf i).toNat)
 case atStart=>exact ⟨0,Nat.zero_le _,rfl,hown1,hb1⟩
 case round =>
  obtain ⟨k,hk,rfl,hown,hb⟩:=hrel
  by_cases hlt:k < xs.length
  ·obtain ⟨x,hx⟩:∃ x,xs[k]? = some x:=⟨_,List.getElem?_eq_getElem hlt⟩
   obtain ⟨b,off,rfl,hB,hcl⟩:=hc (by rw [ints_length]; omega)
   have hcell:wr.cell? ⟨b,off + k,none⟩=some (.int .i64 x):=(hb.cell (p:=⟨b,off + k,none⟩) hB).trans (hcl k _ (ints_get hx))
   have hold:∃ u,wr.cell? ⟨w.heap.size,k,none⟩=some u:=by
    rw [hown.cellAt k (by omega)]
    have:=hown.1
    exact ⟨_,List.getElem?_eq_getElem (by omega)⟩
   obtain ⟨u,hu⟩:=hold
   have hfr:=hown.frozenAt k
   have hst:=hown.stored k (.int .i64 x)
   rw [copyTo_set hx] at hst
   have HS:=hid hst
   have HB:=hid hb
   clear hcl hst hown hown1 hc hb hx
   go_wp2
   go_roundw
   case rel=>exact ⟨k + 1,by omega,by go_num,HS.out.1,HB.out.setCell (Nat.le_refl _) _⟩
   case measure=>simp [intOf]; omega
  ·obtain rfl:k=xs.length:=by omega
   rw [copyTo_all] at hown
   go_wp2
   go_ret
   exact ⟨rfl,hown,hb⟩
theorem eqIntS_same (A B:Option Addr) (c d:Nat) (xs:List Int) (w:World) (ha:Cells w w.heap.size A (ints xs)) (hc:Cells w w.heap.size B (ints xs)) (hn:xs.length≤1000000000) :
  Calls Tryz.prog 27 #[.slice A xs.length c,.slice B xs.length d] w fun e w'=>e=.returned (.bool true)∧Below w.heap.size w w':=by
 go_enter Tryz.func27,Tryz.ntmps27
 go_wp2
 go_loopw [5] (fun i wr=>∃ k:Nat,k≤xs.length∧i=.int .i64 k∧Below w.heap.size w wr) (fun i _=>xs.length - (intOf i).toNat)
 case atStart=>exact ⟨0,Nat.zero_le _,rfl,Below.refl _ _⟩
 case round =>
  obtain ⟨k,hk,rfl,hb⟩:=hrel
  by_cases hlt:k < xs.length
  ·obtain ⟨x,hx⟩:∃ x,xs[k]? = some x:=⟨_,List.getElem?_eq_getElem hlt⟩
   obtain ⟨b,off,rfl,hB,hcl⟩:=ha (by rw [ints_length]; omega)
   obtain ⟨b',off',rfl,hB',hcl'⟩:=hc (by rw [ints_length]; omega)
   have hcell:wr.cell? ⟨b,off + k,none⟩=some (.int .i64 x):=(hb.cell (p:=⟨b,off + k,none⟩) hB).trans (hcl k _ (ints_get hx))
   have hcell':wr.cell? ⟨b',off' + k,none⟩=some (.int .i64 x):=(hb.cell (p:=⟨b',off' + k,none⟩) hB').trans (hcl' k _ (ints_get hx))
   have HB:=hid hb
   have hlt':(k:Int) < (xs.length:Int):=by omega
   clear hcl hcl' ha hc hb hx
   go_wp2
   go_quiet (fail)
   go_wp2
   go_roundw
   case rel=>exact ⟨k + 1,by omega,by go_num,⟨HB.out.os,HB.out.tape,HB.out.output,HB.out.size,HB.out.block⟩⟩
   case measure=>simp [intOf]; omega
  ·obtain rfl:k=xs.length:=by omega
   go_wp2
   go_ret
   exact ⟨rfl,hb⟩
theorem heldIntS_any (A:Option Addr) (c n:Nat) (k:Int) (w:World) (ha:Cells w w.heap.size A (ints (marks k n))) (hn:n≤1000000000) (h0:0≤k) (h1:k≤1000000000000) :
  Calls Tryz.prog 33 #[.slice A n c,.int .i64 k] w fun e w'=>e=.returned (.int .i64 (k + n))∧w=w':=by
 go_enter Tryz.func33,Tryz.ntmps33
 go_wp2
 go_loop [1,5] (fun q i=>∃ j:Nat,j≤n∧i=.int .i64 j∧q=.int .i64 (k + j)) (fun _ i=>n - (intOf i).toNat)
 case atStart=>exact ⟨0,Nat.zero_le _,rfl,by simp⟩
 case round =>
  obtain ⟨j,hj,rfl,rfl⟩:=hrel
  by_cases hlt:j < n
  ·obtain ⟨b,off,rfl,hB,hcl⟩:=ha (by rw [ints_length,marks_length]; omega)
   have hcell:w.cell? ⟨b,off + j,none⟩=some (.int .i64 (k + j)):=hcl j _ (ints_get (marks_get k n j hlt))
   clear hcl ha
   go_wp2
   go_round
   case rel=>exact ⟨j + 1,by omega,by go_num,by go_num⟩
   case measure=>simp [intOf]; omega
  ·obtain rfl:j=n:=by omega
   go_wp2
   go_ret
   exact ⟨rfl,rfl⟩
theorem markIntS_any (base:Nat) (A:Option Addr) (c n:Nat) (vs:List Value) (k:Int) (w:World) (hown:w.ownsRow base 3 1 (.slice A n c) n vs) (hn:n≤1000000000) (h0:0≤k) (h1:k≤1000000000000) :
  Calls Tryz.prog 32 #[.slice A n c,.int .i64 k] w fun e w'=>e=.returned (.int .i64 (k + n)) ∧
   w'.ownsRow base 3 1 (.slice A n c) n (ints (marks k n))∧w.grownBy w' (Value.slice A n c).ownBlock:=by
 have hlen:vs.length=n:=by simpa using hown.1
 rcases hown.2 with ⟨hv,rfl⟩ | ⟨g,cap,cur,hv,_⟩
 ·injection hv with hA _ hcc
  subst hA hcc
  have HO:=hid hown
  clear hown
  go_enter Tryz.func32,Tryz.ntmps32
  go_wp2
  refine wp_loop_rounds 1 ?_
  rw [rounds_succ]
  go_wp2
  go_ret
  exact ⟨by simp,by simpa [marks,ints] using World.ownsRow_nil _ _ _ _,World.grownBy.refl _ _⟩
 ·injection hv with hA _ hcc
  subst hA hcc
  go_enter Tryz.func32,Tryz.ntmps32
  go_wp2
  go_loopw [1,5] (fun q i wr=>∃ j:Nat,j≤n∧i=.int .i64 j∧q=.int .i64 (k + j)∧wr.ownsRow base 3 1 (.slice (some ⟨g,0,none⟩) n c) n (markTo k vs j)∧w.grownBy wr (some g)) (fun _ i _=>n - (intOf i).toNat)
  case atStart=>exact ⟨0,Nat.zero_le _,rfl,by simp,by rw [markTo_zero]; exact hown,World.grownBy.refl _ _⟩
  case round =>
   obtain ⟨j,hj,rfl,rfl,how,hg⟩:=hrel
   by_cases hlt:j < n
   ·have hold:∃ u,wr.cell? ⟨g,j,none⟩=some u:=by
     rw [how.cellAt j (by omega)]
     have:=how.1
     exact ⟨_,List.getElem?_eq_getElem (by omega)⟩
    obtain ⟨u,hu⟩:=hold
    have hfr:=how.frozenAt j
    have hst:=how.stored j (.int .i64 (k + j))
    rw [markTo_set (by omega)] at hst
    have hst2:w.grownBy (wr.setCell ⟨g,j,none⟩ (.int .i64 (k + j))) (some g) :=
     ⟨hst.2.os.trans hg.os,hst.2.tape.trans hg.tape,hst.2.output.trans hg.output,Nat.le_trans hg.size hst.2.size,fun i hi hne=>(hst.2.block i (Nat.lt_of_lt_of_le hi hg.size) hne).trans (hg.block i hi hne)⟩
    have HS:=hid hst
    have HG:=hid hst2
    clear hst hst2 how hown hg
    go_wp2
    go_roundw
    case rel=>exact ⟨j + 1,by omega,by go_num,by go_num,HS.out.1,HG.out⟩
    case measure=>simp [intOf]; omega
   ·obtain rfl:j=n:=by omega
    rw [markTo_all _ _ _ hlen] at how
    go_wp2
    go_ret
    exact ⟨rfl,how,hg⟩
theorem szIntS_any (A:Option Addr) (c n:Nat) (left:Int) (w:World) (hn:n≤9223372036854775807) (h0:0≤left) (h1:left≤1048576) :
  Calls Tryz.prog 66 #[.slice A n c,.int .i64 left] w fun e w'=>e=.returned (.int .i64 (pick (decide (left - n < 0)) (-1) (left - n)))∧w=w':=by
 by_cases hlt:left - n < 0
 all_goals
  simp only [hlt,decide_true,decide_false,pick_yes,pick_no]
  go_enter Tryz.func66,Tryz.ntmps66
  go_wp2
  go_ret
  exact ⟨rfl,rfl⟩
end Go.Proofs.YtihbaieiempjeaaGreat
