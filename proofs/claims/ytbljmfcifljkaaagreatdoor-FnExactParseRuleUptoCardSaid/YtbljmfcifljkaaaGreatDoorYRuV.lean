/-
  The reference's rwSides and rwIs. Own work.
-/
import Derived.Test.YtbljmfcifljkaaaGreatDoorYGH
set_option linter.all false
set_option maxRecDepth 100000
set_option maxHeartbeats 8000000
namespace Go.Proofs.YtbljmfcifljkaaaGreatDoor
open Go.RowKit
set_option maxRecDepth 100000
set_option maxHeartbeats 1000000
def SdP (r:RlI) (w:World) (e:Ending) (w':World):Prop:=∃ (g h:GrI) (a1:Option Addr) (c1:Nat) (a2:Option Addr) (c2:Nat) (a3:Option Addr) (c3:Nat) (b1:Option Addr) (d1:Nat) (b2:Option Addr) (d2:Nat) (b3:Option Addr) (d3:Nat),
 e=.returned (.tuple #[.agg #[.int .i64 g.wires,.slice a1 g.edges.length c1,.slice a2 g.ins.length c2,.slice a3 g.outs.length c3],.agg #[.int .i64 h.wires,.slice b1 h.edges.length d1,.slice b2 h.ins.length d2,.slice b3 h.outs.length d3],.bool (ruleB r)]) ∧
 GrO w' w.heap.size (.slice a1 g.edges.length c1) (.slice a2 g.ins.length c2) (.slice a3 g.outs.length c3) g∧GrO w' w.heap.size (.slice b1 h.edges.length d1) (.slice b2 h.ins.length d2) (.slice b3 h.outs.length d3) h ∧
 (ruleB r=true → mkG r.left=some g∧mkG r.right=some h)∧Below w.heap.size w w'
theorem rwSides_any (r:RlI) (x y:W2) (vl vr:Value) (w:World) (hk:RlK r x y) (hl:NdsAt w vl r.left) (hr:NdsAt w vr r.right) :
  Calls Tryz.prog 108 #[.agg #[.string r.name,vl,vr]] w (SdP r w):=by
 obtain ⟨al,cl,rfl⟩:=hl.slice
 obtain ⟨ar,cr,rfl⟩:=hr.slice
 have hA1:=alloc_below w (.cells #[.string r.name,.slice al r.left.length cl,.slice ar r.right.length cr] 32)
 have hA2:=alloc_below (w.alloc (.cells #[.string r.name,.slice al r.left.length cl,.slice ar r.right.length cr] 32)) (.cells #[.int .i64 0,.slice none 0 0,.slice none 0 0,.slice none 0 0] 53)
 have hA3:=alloc_below ((w.alloc (.cells #[.string r.name,.slice al r.left.length cl,.slice ar r.right.length cr] 32)).alloc (.cells #[.int .i64 0,.slice none 0 0,.slice none 0 0,.slice none 0 0] 53)) (.cells #[.int .i64 0,.slice none 0 0,.slice none 0 0,.slice none 0 0] 53)
 have hA:=hA1.trans ((hA2.mono hA1.size).trans (hA3.mono (by simp;omega)))
 have kI:=((Bk.new w 32 #[.string r.name,.slice al r.left.length cl,.slice ar r.right.length cr]).keep hA2).keep hA3
 have k1:=(Bk.new (w.alloc (.cells #[.string r.name,.slice al r.left.length cl,.slice ar r.right.length cr] 32)) 53 #[.int .i64 0,.slice none 0 0,.slice none 0 0,.slice none 0 0]).keep hA3
 have k2:=Bk.new ((w.alloc (.cells #[.string r.name,.slice al r.left.length cl,.slice ar r.right.length cr] 32)).alloc (.cells #[.int .i64 0,.slice none 0 0,.slice none 0 0,.slice none 0 0] 53)) 53 #[.int .i64 0,.slice none 0 0,.slice none 0 0,.slice none 0 0]
 simp only [World.size_alloc] at k1 k2
 clear hA1 hA2 hA3
 have okl:NdsOk r.left:=⟨hk.ln,by have:=typedL_len hk.tl;omega⟩
 have okr:NdsOk r.right:=⟨hk.rn,by have:=typedL_len hk.tr;omega⟩
 have HWL:=Lib.hid (fun u (h:NdsAt u (.slice al r.left.length cl) r.left)=>tmType_any _ r.left x u h okl hk.tl)
 have HWR:=Lib.hid (fun u (h:NdsAt u (.slice ar r.right.length cr) r.right)=>tmType_any _ r.right y u h okr hk.tr)
 have HN:=Lib.hid (fun u=>lbName_any r.name u hk.nm)
 have HGL:=Lib.hid (fun u (h:NdsAt u (.slice al r.left.length cl) r.left)=>(hgMadeN r.left x _ u hk.tl h).mono (R':=GoQ _ u) fun _ _ h=>h.q)
 have HGR:=Lib.hid (fun u (h:NdsAt u (.slice ar r.right.length cr) r.right)=>(hgMadeN r.right y _ u hk.tr h).mono (R':=GoQ _ u) fun _ _ h=>h.q)
 have HNO:=Lib.hid (ruleB_no hk)
 have HYE:=Lib.hid (ruleB_yes hk)
 have HL:=Lib.hid hl
 have HR:=Lib.hid hr
 have HLOW:=Lib.hid k2.lt
 clear hk hl hr okl okr
 go_enter Tryz.func108,Tryz.ntmps108
 go_wp2_with fail
 generalize (((w.alloc (.cells #[.string r.name,.slice al r.left.length cl,.slice ar r.right.length cr] 32)).alloc (.cells #[.int .i64 0,.slice none 0 0,.slice none 0 0,.slice none 0 0] 53)).alloc (.cells #[.int .i64 0,.slice none 0 0,.slice none 0 0,.slice none 0 0] 53))=u0 at *
 refine (HWL.out u0 (HL.out.keep hA)).mono ?_
 rintro e u1 ⟨rfl,hb1⟩
 have hB1:=hA.trans (hb1.mono hA.size)
 have HS0:=Lib.hid hA.size
 replace kI:=kI.keep hb1
 replace k1:=k1.keep hb1
 replace k2:=k2.keep hb1
 obtain ⟨iI,-,zI⟩:=kI.cell
 clear hA hb1
 go_wp2_with fail
 refine (HWR.out u1 (HR.out.keep hB1)).mono ?_
 rintro e u2 ⟨rfl,hb2⟩
 have hB2:=hB1.trans (hb2.mono hB1.size)
 replace kI:=kI.keep hb2
 replace k1:=k1.keep hb2
 replace k2:=k2.keep hb2
 clear iI zI hb2 hB1
 obtain ⟨iI,-,zI⟩:=kI.cell
 obtain ⟨i1,f1,z1⟩:=k1.cell
 obtain ⟨i2,f2,z2⟩:=k2.cell
 obtain ⟨p,q⟩:=x
 obtain ⟨p',q'⟩:=y
 dsimp only at *
 go_wp2_with fail
 refine (HN.out u2).mono ?_
 rintro e u3 ⟨rfl,hb3⟩
 have hB3:=hB2.trans (hb3.mono hB2.size)
 replace kI:=kI.keep hb3
 replace k1:=k1.keep hb3
 replace k2:=k2.keep hb3
 clear iI zI hb3 hB2 i1 f1 z1 i2 f2 z2
 obtain ⟨iI,-,zI⟩:=kI.cell
 obtain ⟨i1,f1,z1⟩:=k1.cell
 obtain ⟨i2,f2,z2⟩:=k2.cell
 have HU3:=Lib.hid (show w.heap.size+1+1<u3.heap.size from z2)
 have hne:¬ w.heap.size+1=w.heap.size+1+1:=by omega
 have hne':¬ w.heap.size+1+1=w.heap.size+1:=by omega
 have HZ:=Lib.hid (show ∀ (B:Bool) (u:World),ruleB r=false → Below w.heap.size w u → SdP r w (.returned (.tuple #[.agg #[.int .i64 0,.slice none 0 0,.slice none 0 0,.slice none 0 0],.agg #[.int .i64 0,.slice none 0 0,.slice none 0 0,.slice none 0 0],.bool false])) u from fun B u hh hb=>⟨⟨0,[],[],[]⟩,⟨0,[],[],[]⟩,none,0,none,0,none,0,none,0,none,0,none,0,by rw [hh];rfl,GrO.zero _ _,GrO.zero _ _,(by rw [hh];intro h;cases h),hb⟩)
 by_cases hxy:p=p'∧q=q'
 ·obtain ⟨rfl,rfl⟩:=hxy
  cases hn:nameB r.name with
  | false =>
   have HB:=Lib.hid (HNO.out (fun h=>by rw [hn] at h;cases h.2))
   clear hn
   go_wp2
   refine bodyPost_ret (v:=.tuple #[.agg #[.int .i64 0,.slice none 0 0,.slice none 0 0,.slice none 0 0],.agg #[.int .i64 0,.slice none 0 0,.slice none 0 0,.slice none 0 0],.bool false]) (by simp [results,Tryz.results108,go_sem,i1,i2,hne,hne']) rfl (HZ.out true _ HB.out ?_)
   exact below_res (below_res hB3 (by omega) _ _ _ _) (by omega) _ _ _ _
  | true =>
   have HB:=Lib.hid (HYE.out rfl hn)
   clear hn
   go_wp2_with fail
   refine (HGL.out u3 (HL.out.keep hB3)).mono ?_
   rintro e u4 ⟨x1,y1,x2,y2,x3,y3,rfl,hg4,hb4⟩
   have hB4:=hB3.trans (hb4.mono hB3.size)
   have hS3:=Lib.hid hB3.size
   have HB34:=Lib.hid hb4.size
   replace kI:=kI.keep hb4
   replace k1:=k1.keep hb4
   replace k2:=k2.keep hb4
   have hz24:=k2.lt
   clear iI zI hb4 hB3 i1 f1 z1 i2 f2 z2
   obtain ⟨iI,-,zI⟩:=kI.cell
   go_wp2_with fail
   obtain ⟨G,hG⟩:∃ G,gOr (mkG r.left)=G:=⟨_,rfl⟩
   obtain ⟨a,ha⟩:∃ a,(mkG r.left).isSome=a:=⟨_,rfl⟩
   have HGA:=Lib.hid (And.intro hG ha)
   rw [hG] at hg4 ⊢
   rw [ha] at HB ⊢
   have k11:=Bk.new u4 53 #[.int .i64 G.wires,.slice x1 G.edges.length y1,.slice x2 G.ins.length y2,.slice x3 G.outs.length y3]
   have hA5:=alloc_below u4 (.cells #[.int .i64 G.wires,.slice x1 G.edges.length y1,.slice x2 G.ins.length y2,.slice x3 G.outs.length y3] 53)
   have hB5:=hB4.trans (hA5.mono hB4.size)
   have HU5:=Lib.hid (show u3.heap.size≤(u4.alloc (.cells #[.int .i64 G.wires,.slice x1 G.edges.length y1,.slice x2 G.ins.length y2,.slice x3 G.outs.length y3] 53)).heap.size from Nat.le_trans HB34.out hA5.size)
   replace kI:=kI.keep hA5
   replace k1:=k1.keep hA5
   replace k2:=k2.keep hA5
   replace hg4:=hg4.keep hA5
   clear iI zI hA5 hB4 hG ha
   generalize (u4.alloc (.cells #[.int .i64 G.wires,.slice x1 G.edges.length y1,.slice x2 G.ins.length y2,.slice x3 G.outs.length y3] 53))=u5 at *
   have HB11:=Lib.hid (show w.heap.size+1+1<u4.heap.size from hz24)
   generalize u4.heap.size=b11 at *
   refine (HGR.out u5 (HR.out.keep hB5)).mono ?_
   rintro e u6 ⟨s1,t1,s2,t2,s3,t3,rfl,hg6,hb6⟩
   have hB6:=hB5.trans (hb6.mono hB5.size)
   have hS5:=Lib.hid hB5.size
   replace k1:=k1.keep hb6
   replace k2:=k2.keep hb6
   replace k11:=k11.keep hb6
   have HB13:=Lib.hid (show w.heap.size+1+1<u6.heap.size from k2.lt)
   replace hg4:=hg4.keep hb6
   clear hb6 hB5 kI
   obtain ⟨H,hH⟩:∃ H,gOr (mkG r.right)=H:=⟨_,rfl⟩
   obtain ⟨b,hb⟩:∃ b,(mkG r.right).isSome=b:=⟨_,rfl⟩
   have HGB:=Lib.hid (And.intro hH hb)
   rw [hH] at hg6 ⊢
   rw [hb] at HB ⊢
   go_wp2_with fail
   have k13:=Bk.new u6 53 #[.int .i64 H.wires,.slice s1 H.edges.length t1,.slice s2 H.ins.length t2,.slice s3 H.outs.length t3]
   have hA7:=alloc_below u6 (.cells #[.int .i64 H.wires,.slice s1 H.edges.length t1,.slice s2 H.ins.length t2,.slice s3 H.outs.length t3] 53)
   have hB7:=hB6.trans (hA7.mono hB6.size)
   replace k1:=k1.keep hA7
   replace k2:=k2.keep hA7
   replace k11:=k11.keep hA7
   replace hg4:=hg4.keep hA7
   replace hg6:=hg6.keep hA7
   clear hA7 hB6 hH hb
   have z11:=k11.lt
   have HZB:=Lib.hid (show w.heap.size+1+1<b11∧w.heap.size+1+1<u6.heap.size from ⟨HB11.out,HB13.out⟩)
   generalize (u6.alloc (.cells #[.int .i64 H.wires,.slice s1 H.edges.length t1,.slice s2 H.ins.length t2,.slice s3 H.outs.length t3] 53))=u7 at *
   generalize u6.heap.size=b13 at *
   obtain ⟨i11,-,-⟩:=k11.cell
   obtain ⟨i13,-,z13⟩:=k13.cell
   have c0:=i11 0
   have c1:=i11 1
   have c2:=i11 2
   have c3:=i11 3
   have d0:=i13 0
   have d1:=i13 1
   have d2:=i13 2
   have d3:=i13 3
   simp at c0 c1 c2 c3 d0 d1 d2 d3
   clear i11 i13
   have n1:¬ b11=w.heap.size+1:=by have:=HZB.out;omega
   have n2:¬ b11=w.heap.size+1+1:=by have:=HZB.out;omega
   have n3:¬ b13=w.heap.size+1:=by have:=HZB.out;omega
   have n4:¬ b13=w.heap.size+1+1:=by have:=HZB.out;omega
   have HLO3:=Lib.hid (show w.heap.size+1+1<u3.heap.size from HU3.out)
   have HLO5:=Lib.hid HU5.out
   cases a with
   | true =>
    refine region_acts (C:=Exc ((fun j=>j=w.heap.size+1∨j=w.heap.size+1+1)) _) 6 [0,1,2,3,4,5,6,7,8] (by kernel_rfl) (by kernel_rfl) (Exc.grows _ _) (Exc.refl _ _) ?_
    iterate 4 (apply x_sT rfl rfl rfl;(focus intro u hc' hf';(try simp only [World.size_drew] at hc' hf');go_simp <;> rfl);intro K hK;go_simp;apply hK;clear hK K)
    refine x_stillg rfl rfl (fun K hK=>?_)
    refine ⟨by first|rfl|(simp [Region.wanted,yielded,go_sem]),?_⟩
    apply Exists.intro
    refine ⟨fun w' hw'=>?_,?_⟩
    ·go_simp
     rfl
    go_simp
    refine hK _ _ _ ?_
    clear hK K
    iterate 1 (apply x_sT rfl rfl rfl;(focus intro u hc' hf';(try simp only [World.size_drew] at hc' hf');go_simp <;> rfl);intro K hK;go_simp;apply hK;clear hK K)
    refine x_do rfl rfl rfl (Exc.grows _ _) (Exc.refl _ _) (fun K hK=>?_)
    intro w8 hw8 hb8
    have h78:Below u7.heap.size u7 w8:=(Below.refl u7.heap.size u7).drew.trans (hb8.mono (by simp))
    have k18:=k1.keep h78
    have k28:=k2.keep h78
    obtain ⟨m0,m1,m2⟩:=k18.cell
    refine ⟨(((w8.setCell ⟨w.heap.size+1,0,none⟩ (.int .i64 G.wires)).setCell ⟨w.heap.size+1,1,none⟩ (.slice x1 G.edges.length y1)).setCell ⟨w.heap.size+1,2,none⟩ (.slice x2 G.ins.length y2)).setCell ⟨w.heap.size+1,3,none⟩ (.slice x3 G.outs.length y3),?_,⟨exc_set (exc_set (exc_set (exc_set hw8 (.inr (.inl rfl)) _) (.inr (.inl rfl)) _) (.inr (.inl rfl)) _) (.inr (.inl rfl)) _,by simp,fun j hj _ _=>by
     have hj2:¬ (j=w.heap.size+1):=by intro hh;have:=k1.lt;simp only [World.size_drew] at hj;omega
     rw [Below.heap_setCell _ _ _ _ (fun h=>hj2 (by simpa using h)),Below.heap_setCell _ _ _ _ (fun h=>hj2 (by simpa using h)),Below.heap_setCell _ _ _ _ (fun h=>hj2 (by simpa using h)),Below.heap_setCell _ _ _ _ (fun h=>hj2 (by simpa using h))]⟩,?_⟩
    ·go_simp
    go_simp
    refine hK _ _ _ ?_
    clear hK K
    have g8:=GrO.res ((hg4.keep h78).mono (B':=u3.heap.size) (Nat.le_refl _)) (b:=w.heap.size+1) (by have:=HLO3.out;omega) (.int .i64 G.wires) (.slice x1 G.edges.length y1) (.slice x2 G.ins.length y2) (.slice x3 G.outs.length y3)
    have h8:=GrO.res ((hg6.keep h78).mono (B':=u3.heap.size) HLO5.out) (b:=w.heap.size+1) (by have:=HLO3.out;omega) (.int .i64 G.wires) (.slice x1 G.edges.length y1) (.slice x2 G.ins.length y2) (.slice x3 G.outs.length y3)
    have b8:=below_res (hB7.trans (h78.mono hB7.size)) (b:=w.heap.size+1) (by omega) (.int .i64 G.wires) (.slice x1 G.edges.length y1) (.slice x2 G.ins.length y2) (.slice x3 G.outs.length y3)
    have ka:Bk ((((w8.setCell ⟨w.heap.size+1,0,none⟩ (.int .i64 G.wires)).setCell ⟨w.heap.size+1,1,none⟩ (.slice x1 G.edges.length y1)).setCell ⟨w.heap.size+1,2,none⟩ (.slice x2 G.ins.length y2)).setCell ⟨w.heap.size+1,3,none⟩ (.slice x3 G.outs.length y3)) (w.heap.size+1) 53 #[.int .i64 G.wires,.slice x1 G.edges.length y1,.slice x2 G.ins.length y2,.slice x3 G.outs.length y3]:=(((k18.set 0 _).set 1 _).set 2 _).set 3 _
    have kb:=(((k28.other ⟨w.heap.size+1,0,none⟩ (.int .i64 G.wires) (by simp)).other ⟨w.heap.size+1,1,none⟩ (.slice x1 G.edges.length y1) (by simp)).other ⟨w.heap.size+1,2,none⟩ (.slice x2 G.ins.length y2) (by simp)).other ⟨w.heap.size+1,3,none⟩ (.slice x3 G.outs.length y3) (by simp)
    have hx8:Exc (fun j=>j=w.heap.size+1∨j=w.heap.size+1+1) u7.drew ((((w8.setCell ⟨w.heap.size+1,0,none⟩ (.int .i64 G.wires)).setCell ⟨w.heap.size+1,1,none⟩ (.slice x1 G.edges.length y1)).setCell ⟨w.heap.size+1,2,none⟩ (.slice x2 G.ins.length y2)).setCell ⟨w.heap.size+1,3,none⟩ (.slice x3 G.outs.length y3)):=exc_set (exc_set (exc_set (exc_set hw8 (.inr (.inl rfl)) _) (.inr (.inl rfl)) _) (.inr (.inl rfl)) _) (.inr (.inl rfl)) _
    clear hw8 hb8 h78 k18 k28 m0 m1 m2
    generalize ((((w8.setCell ⟨w.heap.size+1,0,none⟩ (.int .i64 G.wires)).setCell ⟨w.heap.size+1,1,none⟩ (.slice x1 G.edges.length y1)).setCell ⟨w.heap.size+1,2,none⟩ (.slice x2 G.ins.length y2)).setCell ⟨w.heap.size+1,3,none⟩ (.slice x3 G.outs.length y3))=u9 at *
    refine x_do rfl rfl rfl (Exc.grows _ _) hx8 (fun K hK=>?_)
    intro w9 hw9 hb9
    have ka9:=ka.keep hb9
    have kb9:=kb.keep hb9
    obtain ⟨m0,m1,m2⟩:=kb9.cell
    refine ⟨(((w9.setCell ⟨w.heap.size+1+1,0,none⟩ (.int .i64 H.wires)).setCell ⟨w.heap.size+1+1,1,none⟩ (.slice s1 H.edges.length t1)).setCell ⟨w.heap.size+1+1,2,none⟩ (.slice s2 H.ins.length t2)).setCell ⟨w.heap.size+1+1,3,none⟩ (.slice s3 H.outs.length t3),?_,⟨exc_set (exc_set (exc_set (exc_set hw9 (.inr (.inr rfl)) _) (.inr (.inr rfl)) _) (.inr (.inr rfl)) _) (.inr (.inr rfl)) _,by simp,fun j hj _ _=>by
     have hj2:¬ (j=w.heap.size+1+1):=by intro hh;have:=k2.lt;simp only [World.size_drew] at hj;omega
     rw [Below.heap_setCell _ _ _ _ (fun h=>hj2 (by simpa using h)),Below.heap_setCell _ _ _ _ (fun h=>hj2 (by simpa using h)),Below.heap_setCell _ _ _ _ (fun h=>hj2 (by simpa using h)),Below.heap_setCell _ _ _ _ (fun h=>hj2 (by simpa using h))]⟩,?_⟩
    ·go_simp
    go_simp
    refine hK _ _ _ ?_
    clear hK K
    iterate 1 (apply x_sT rfl rfl rfl;(focus intro u hc' hf';(try simp only [World.size_drew] at hc' hf');go_simp <;> rfl);intro K hK;go_simp;apply hK;clear hK K)
    refine x_nil ?_
    have g9:=GrO.res (g8.keep hb9) (b:=w.heap.size+1+1) (by have:=HLO3.out;omega) (.int .i64 H.wires) (.slice s1 H.edges.length t1) (.slice s2 H.ins.length t2) (.slice s3 H.outs.length t3)
    have h9:=GrO.res (h8.keep hb9) (b:=w.heap.size+1+1) (by have:=HLO3.out;omega) (.int .i64 H.wires) (.slice s1 H.edges.length t1) (.slice s2 H.ins.length t2) (.slice s3 H.outs.length t3)
    have b9:=below_res (b8.trans (hb9.mono b8.size)) (b:=w.heap.size+1+1) (by omega) (.int .i64 H.wires) (.slice s1 H.edges.length t1) (.slice s2 H.ins.length t2) (.slice s3 H.outs.length t3)
    obtain ⟨ja,fa,za⟩:=ka9.cell
    obtain ⟨jb,fb,zb⟩:=kb9.cell
    have HFIN:=Lib.hid (And.intro g9 (And.intro h9 b9))
    clear hw9 hb9 ka9 kb9 ka kb hx8 g8 h8 b8 g9 h9 b9 m1 m2
    go_wp2
    refine bodyPost_ret (v:=.tuple #[.agg #[.int .i64 G.wires,.slice x1 G.edges.length y1,.slice x2 G.ins.length y2,.slice x3 G.outs.length y3],.agg #[.int .i64 H.wires,.slice s1 H.edges.length t1,.slice s2 H.ins.length t2,.slice s3 H.outs.length t3],.bool b]) (by simp [results,Tryz.results108,go_sem,ja,jb,fa,fb,za,zb,hne,hne']) rfl ?_
    refine ⟨G,H,x1,y1,x2,y2,x3,y3,s1,t1,s2,t2,s3,t3,by rw [HB.out];rfl,HFIN.out.1.mono (by have:=HLO3.out;omega),HFIN.out.2.1.mono (by have:=HLO3.out;omega),fun hh=>?_,HFIN.out.2.2⟩
    rw [HB.out] at hh
    have hb2:b=true:=hh
    rw [hb2] at HGB
    exact ⟨by
     obtain ⟨g,hg⟩:=Option.isSome_iff_exists.1 HGA.out.2
     rw [hg] at HGA ⊢
     rw [← HGA.out.1];rfl,by
     obtain ⟨g,hg⟩:=Option.isSome_iff_exists.1 HGB.out.2
     rw [hg] at HGB ⊢
     rw [← HGB.out.1];rfl⟩
   | false =>
    refine region_acts (C:=Exc ((fun j=>j=w.heap.size+1∨j=w.heap.size+1+1)) _) 6 [0,1,2,3,4,5,6,7,8] (by kernel_rfl) (by kernel_rfl) (Exc.grows _ _) (Exc.refl _ _) ?_
    iterate 4 (apply x_sT rfl rfl rfl;(focus intro u hc' hf';(try simp only [World.size_drew] at hc' hf');go_simp <;> rfl);intro K hK;go_simp;apply hK;clear hK K)
    iterate 1 (refine x_skip rfl fun K hK=>⟨by first|rfl|(simp [Region.wanted,yielded,go_sem]),?_⟩;go_simp;apply hK;clear hK K)
    iterate 1 (apply x_sT rfl rfl rfl;(focus intro u hc' hf';(try simp only [World.size_drew] at hc' hf');go_simp <;> rfl);intro K hK;go_simp;apply hK;clear hK K)
    refine x_do rfl rfl rfl (Exc.grows _ _) (Exc.refl _ _) (fun K hK=>?_)
    intro w8 hw8 hb8
    have h78:Below u7.heap.size u7 w8:=(Below.refl u7.heap.size u7).drew.trans (hb8.mono (by simp))
    have k18:=k1.keep h78
    have k28:=k2.keep h78
    obtain ⟨m0,m1,m2⟩:=k18.cell
    refine ⟨(((w8.setCell ⟨w.heap.size+1,0,none⟩ (.int .i64 G.wires)).setCell ⟨w.heap.size+1,1,none⟩ (.slice x1 G.edges.length y1)).setCell ⟨w.heap.size+1,2,none⟩ (.slice x2 G.ins.length y2)).setCell ⟨w.heap.size+1,3,none⟩ (.slice x3 G.outs.length y3),?_,⟨exc_set (exc_set (exc_set (exc_set hw8 (.inr (.inl rfl)) _) (.inr (.inl rfl)) _) (.inr (.inl rfl)) _) (.inr (.inl rfl)) _,by simp,fun j hj _ _=>by
     have hj2:¬ (j=w.heap.size+1):=by intro hh;have:=k1.lt;simp only [World.size_drew] at hj;omega
     rw [Below.heap_setCell _ _ _ _ (fun h=>hj2 (by simpa using h)),Below.heap_setCell _ _ _ _ (fun h=>hj2 (by simpa using h)),Below.heap_setCell _ _ _ _ (fun h=>hj2 (by simpa using h)),Below.heap_setCell _ _ _ _ (fun h=>hj2 (by simpa using h))]⟩,?_⟩
    ·go_simp
    go_simp
    refine hK _ _ _ ?_
    clear hK K
    have g8:=GrO.res ((hg4.keep h78).mono (B':=u3.heap.size) (Nat.le_refl _)) (b:=w.heap.size+1) (by have:=HLO3.out;omega) (.int .i64 G.wires) (.slice x1 G.edges.length y1) (.slice x2 G.ins.length y2) (.slice x3 G.outs.length y3)
    have h8:=GrO.res ((hg6.keep h78).mono (B':=u3.heap.size) HLO5.out) (b:=w.heap.size+1) (by have:=HLO3.out;omega) (.int .i64 G.wires) (.slice x1 G.edges.length y1) (.slice x2 G.ins.length y2) (.slice x3 G.outs.length y3)
    have b8:=below_res (hB7.trans (h78.mono hB7.size)) (b:=w.heap.size+1) (by omega) (.int .i64 G.wires) (.slice x1 G.edges.length y1) (.slice x2 G.ins.length y2) (.slice x3 G.outs.length y3)
    have ka:Bk ((((w8.setCell ⟨w.heap.size+1,0,none⟩ (.int .i64 G.wires)).setCell ⟨w.heap.size+1,1,none⟩ (.slice x1 G.edges.length y1)).setCell ⟨w.heap.size+1,2,none⟩ (.slice x2 G.ins.length y2)).setCell ⟨w.heap.size+1,3,none⟩ (.slice x3 G.outs.length y3)) (w.heap.size+1) 53 #[.int .i64 G.wires,.slice x1 G.edges.length y1,.slice x2 G.ins.length y2,.slice x3 G.outs.length y3]:=(((k18.set 0 _).set 1 _).set 2 _).set 3 _
    have kb:=(((k28.other ⟨w.heap.size+1,0,none⟩ (.int .i64 G.wires) (by simp)).other ⟨w.heap.size+1,1,none⟩ (.slice x1 G.edges.length y1) (by simp)).other ⟨w.heap.size+1,2,none⟩ (.slice x2 G.ins.length y2) (by simp)).other ⟨w.heap.size+1,3,none⟩ (.slice x3 G.outs.length y3) (by simp)
    have hx8:Exc (fun j=>j=w.heap.size+1∨j=w.heap.size+1+1) u7.drew ((((w8.setCell ⟨w.heap.size+1,0,none⟩ (.int .i64 G.wires)).setCell ⟨w.heap.size+1,1,none⟩ (.slice x1 G.edges.length y1)).setCell ⟨w.heap.size+1,2,none⟩ (.slice x2 G.ins.length y2)).setCell ⟨w.heap.size+1,3,none⟩ (.slice x3 G.outs.length y3)):=exc_set (exc_set (exc_set (exc_set hw8 (.inr (.inl rfl)) _) (.inr (.inl rfl)) _) (.inr (.inl rfl)) _) (.inr (.inl rfl)) _
    clear hw8 hb8 h78 k18 k28 m0 m1 m2
    generalize ((((w8.setCell ⟨w.heap.size+1,0,none⟩ (.int .i64 G.wires)).setCell ⟨w.heap.size+1,1,none⟩ (.slice x1 G.edges.length y1)).setCell ⟨w.heap.size+1,2,none⟩ (.slice x2 G.ins.length y2)).setCell ⟨w.heap.size+1,3,none⟩ (.slice x3 G.outs.length y3))=u9 at *
    refine x_do rfl rfl rfl (Exc.grows _ _) hx8 (fun K hK=>?_)
    intro w9 hw9 hb9
    have ka9:=ka.keep hb9
    have kb9:=kb.keep hb9
    obtain ⟨m0,m1,m2⟩:=kb9.cell
    refine ⟨(((w9.setCell ⟨w.heap.size+1+1,0,none⟩ (.int .i64 H.wires)).setCell ⟨w.heap.size+1+1,1,none⟩ (.slice s1 H.edges.length t1)).setCell ⟨w.heap.size+1+1,2,none⟩ (.slice s2 H.ins.length t2)).setCell ⟨w.heap.size+1+1,3,none⟩ (.slice s3 H.outs.length t3),?_,⟨exc_set (exc_set (exc_set (exc_set hw9 (.inr (.inr rfl)) _) (.inr (.inr rfl)) _) (.inr (.inr rfl)) _) (.inr (.inr rfl)) _,by simp,fun j hj _ _=>by
     have hj2:¬ (j=w.heap.size+1+1):=by intro hh;have:=k2.lt;simp only [World.size_drew] at hj;omega
     rw [Below.heap_setCell _ _ _ _ (fun h=>hj2 (by simpa using h)),Below.heap_setCell _ _ _ _ (fun h=>hj2 (by simpa using h)),Below.heap_setCell _ _ _ _ (fun h=>hj2 (by simpa using h)),Below.heap_setCell _ _ _ _ (fun h=>hj2 (by simpa using h))]⟩,?_⟩
    ·go_simp
    go_simp
    refine hK _ _ _ ?_
    clear hK K
    iterate 1 (apply x_sT rfl rfl rfl;(focus intro u hc' hf';(try simp only [World.size_drew] at hc' hf');go_simp <;> rfl);intro K hK;go_simp;apply hK;clear hK K)
    refine x_nil ?_
    have g9:=GrO.res (g8.keep hb9) (b:=w.heap.size+1+1) (by have:=HLO3.out;omega) (.int .i64 H.wires) (.slice s1 H.edges.length t1) (.slice s2 H.ins.length t2) (.slice s3 H.outs.length t3)
    have h9:=GrO.res (h8.keep hb9) (b:=w.heap.size+1+1) (by have:=HLO3.out;omega) (.int .i64 H.wires) (.slice s1 H.edges.length t1) (.slice s2 H.ins.length t2) (.slice s3 H.outs.length t3)
    have b9:=below_res (b8.trans (hb9.mono b8.size)) (b:=w.heap.size+1+1) (by omega) (.int .i64 H.wires) (.slice s1 H.edges.length t1) (.slice s2 H.ins.length t2) (.slice s3 H.outs.length t3)
    obtain ⟨ja,fa,za⟩:=ka9.cell
    obtain ⟨jb,fb,zb⟩:=kb9.cell
    have HFIN:=Lib.hid (And.intro g9 (And.intro h9 b9))
    clear hw9 hb9 ka9 kb9 ka kb hx8 g8 h8 b8 g9 h9 b9 m1 m2
    go_wp2
    refine bodyPost_ret (v:=.tuple #[.agg #[.int .i64 G.wires,.slice x1 G.edges.length y1,.slice x2 G.ins.length y2,.slice x3 G.outs.length y3],.agg #[.int .i64 H.wires,.slice s1 H.edges.length t1,.slice s2 H.ins.length t2,.slice s3 H.outs.length t3],.bool false]) (by simp [results,Tryz.results108,go_sem,ja,jb,fa,fb,za,zb,hne,hne']) rfl ?_
    refine ⟨G,H,x1,y1,x2,y2,x3,y3,s1,t1,s2,t2,s3,t3,by rw [HB.out];rfl,HFIN.out.1.mono (by have:=HLO3.out;omega),HFIN.out.2.1.mono (by have:=HLO3.out;omega),fun hh=>?_,HFIN.out.2.2⟩
    rw [HB.out] at hh
    cases hh
 ·have HB:=Lib.hid (HNO.out (fun h=>hxy (by have:=h.1;simp only [Prod.mk.injEq] at this;exact this)))
  cases hn:nameB r.name with
  | false =>
   clear hn hxy
   go_wp2
   refine bodyPost_ret (v:=.tuple #[.agg #[.int .i64 0,.slice none 0 0,.slice none 0 0,.slice none 0 0],.agg #[.int .i64 0,.slice none 0 0,.slice none 0 0,.slice none 0 0],.bool false]) (by simp [results,Tryz.results108,go_sem,i1,i2,hne,hne']) rfl (HZ.out true _ HB.out ?_)
   exact below_res (below_res hB3 (by omega) _ _ _ _) (by omega) _ _ _ _
  | true =>
   clear hn
   by_cases hp:p=p'
   ·have hq:¬ q=q':=fun e=>hxy ⟨hp,e⟩
    clear hxy
    go_wp2
    refine bodyPost_ret (v:=.tuple #[.agg #[.int .i64 0,.slice none 0 0,.slice none 0 0,.slice none 0 0],.agg #[.int .i64 0,.slice none 0 0,.slice none 0 0,.slice none 0 0],.bool false]) (by simp [results,Tryz.results108,go_sem,i1,i2,hne,hne']) rfl (HZ.out true _ HB.out ?_)
    exact below_res (below_res hB3 (by omega) _ _ _ _) (by omega) _ _ _ _
   ·clear hxy
    go_wp2
    refine bodyPost_ret (v:=.tuple #[.agg #[.int .i64 0,.slice none 0 0,.slice none 0 0,.slice none 0 0],.agg #[.int .i64 0,.slice none 0 0,.slice none 0 0,.slice none 0 0],.bool false]) (by simp [results,Tryz.results108,go_sem,i1,i2,hne,hne']) rfl (HZ.out true _ HB.out ?_)
    exact below_res (below_res hB3 (by omega) _ _ _ _) (by omega) _ _ _ _
theorem rwIs_any (r:RlI) (x y:W2) (vl vr:Value) (w:World) (hk:RlK r x y) (hl:NdsAt w vl r.left) (hr:NdsAt w vr r.right) :
  Calls Tryz.prog 49 #[.agg #[.string r.name,vl,vr]] w (FlP (ruleB r) w):=by
 obtain ⟨al,cl,rfl⟩:=hl.slice
 obtain ⟨ar,cr,rfl⟩:=hr.slice
 have hA:=alloc_below w (.cells #[.string r.name,.slice al r.left.length cl,.slice ar r.right.length cr] 32)
 have HQ:=Lib.hid (rwSides_any r x y _ _ (w.alloc (.cells #[.string r.name,.slice al r.left.length cl,.slice ar r.right.length cr] 32)) hk (hl.keep hA) (hr.keep hA))
 clear hk hl hr
 go_enter Tryz.func49,Tryz.ntmps49
 go_wp2_with fail
 refine HQ.out.mono ?_
 rintro e u1 ⟨G,H,a1,c1,a2,c2,a3,c3,b1,d1,b2,d2,b3,d3,rfl,-,-,-,hb⟩
 have hB:=hA.trans (hb.mono hA.size)
 clear HQ hA hb
 obtain ⟨B,hB'⟩:∃ B,ruleB r=B:=⟨_,rfl⟩
 rw [hB']
 have HBB:=Lib.hid hB'
 clear hB'
 go_wp2
 go_ret
 refine ⟨by rw [HBB.out];rfl,?_⟩
 exact (hB.trans ((alloc_below _ _).mono hB.size)).trans ((alloc_below _ _).mono (by have:=hB.size;simp;omega))
end Go.Proofs.YtbljmfcifljkaaaGreatDoor
