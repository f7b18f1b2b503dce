/-
  The law of ParseRule, walked. Own work.
-/
import Derived.Test.YtbljmfcifljkaaaGreatDoorYPY
import Derived.Test.YtbljmfcifljkaaaGreatDoorYRuE
set_option linter.all false
set_option maxRecDepth 100000
set_option maxHeartbeats 8000000
namespace Go.Proofs.YtbljmfcifljkaaaGreatDoor
open Go.RowKit
set_option maxRecDepth 100000
set_option maxHeartbeats 1000000
theorem ruleL_len (s:ByteArray):((ruleL s).getD rl0).left.length≤400∧((ruleL s).getD rl0).right.length≤400:=by
 cases h:ruleL s with
 | none=>simp [rl0]
 | some d =>
  have hp:pRuleL s=some d:=by
   unfold ruleL at h
   rw [Option.filter_eq_some_iff] at h
   exact h.1
  obtain ⟨x,y,hk⟩:=prule_k hp
  exact ⟨typedL_len hk.tl,typedL_len hk.tr⟩
theorem markRule_any (vl vr:Value) (a b:List Nd) (nm:ByteArray) (k:Int) (B:Nat) (w:World) (hl:NdsOwn w B vl a) (hr:NdsOwn w B vr b) (hap:∀ j,vl.ownBlock=some j → vr.ownBlock ≠ some j) (na:a.length≤400) (nb:b.length≤400) (h0:0≤k) (h1:k≤1000) :
  Calls Tryz.prog 16 #[.agg #[.string nm,vl,vr],.int .i64 k] w fun e w'=>e=.returned (.int .i64 (k+3 * a.length+3 * b.length))∧NdsOwn w' B vl (mkNds a.length k)∧NdsOwn w' B vr (mkNds b.length (k+3 * a.length))∧Exc (fun j=>vl.ownBlock=some j∨vr.ownBlock=some j) w w':=by
 obtain ⟨pl,cl,rfl⟩:=hl.slice
 obtain ⟨pr,cr,rfl⟩:=hr.slice
 have hA:=alloc_below w (.cells #[.string nm,.slice pl a.length cl,.slice pr b.length cr] 32)
 have kb:=Bk.new w 32 #[.string nm,.slice pl a.length cl,.slice pr b.length cr]
 have hl1:=hl.keep hA
 have hr1:=hr.keep hA
 have nl:¬ (Value.slice pl a.length cl).ownBlock=some w.heap.size:=fun e=>by have:=(World.ownsRow.lt hl _ e).2;omega
 have nr:¬ (Value.slice pr b.length cr).ownBlock=some w.heap.size:=fun e=>by have:=(World.ownsRow.lt hr _ e).2;omega
 have HX:=Lib.hid (And.intro nl nr)
 have HA:=Lib.hid hap
 clear hl hr nl nr hap
 go_enter Tryz.func16,Tryz.ntmps16
 go_wp2_with fail
 refine (markTerm_any _ a k B _ hl1 (by omega) h0 (by omega)).mono ?_
 rintro e w2 ⟨rfl,ho2,hx2⟩
 have kb2:=kb.exc hx2 HX.out.1
 have hr2:NdsOwn w2 B _ _:=owns_exc hx2 hr1 (fun j hj e=>HA.out j e hj)
 obtain ⟨k0,kf,kz⟩:=kb2.cell
 have k2:=k0 2
 simp only [List.getElem?_toArray,List.getElem?_cons_zero,List.getElem?_cons_succ] at k2
 clear kb kb2 k0 hl1 hr1
 go_wp2_with fail
 refine (markTerm_any _ b _ B _ hr2 (by omega) (by omega) (by omega)).mono ?_
 rintro e w3 ⟨rfl,ho3,hx3⟩
 have ho3':NdsOwn w3 B _ _:=owns_exc hx3 ho2 (fun j hj e=>HA.out j hj e)
 go_wp2
 go_ret
 exact ⟨rfl,ho3',ho3,(Below.exc hA).trans ((hx2.mono (fun j hj=>.inl hj)).trans (hx3.mono (fun j hj=>.inr hj)))⟩
theorem heldRule_any (vl vr:Value) (na nb:Nat) (nm:ByteArray) (k:Int) (w:World) (hl:NdsAt w vl (mkNds na k)) (hr:NdsAt w vr (mkNds nb (k+3 * na))) (ha:na≤400) (hb:nb≤400) (h0:0≤k) (h1:k≤1000) :
  Calls Tryz.prog 17 #[.agg #[.string nm,vl,vr],.int .i64 k] w fun e w'=>e=.returned (.int .i64 (k+3 * na+3 * nb))∧Below w.heap.size w w':=by
 obtain ⟨pl,cl,hvl⟩:=hl.slice
 obtain ⟨pr,cr,hvr⟩:=hr.slice
 generalize (mkNds na k).length=nl at hvl
 generalize (mkNds nb (k+3 * na)).length=nr at hvr
 subst hvl hvr
 have hA:=alloc_below w (.cells #[.string nm,.slice pl nl cl,.slice pr nr cr] 32)
 have kb:=Bk.new w 32 #[.string nm,.slice pl nl cl,.slice pr nr cr]
 have hl1:=hl.keep hA
 have hr1:=hr.keep hA
 clear hl hr
 have p1:¬ (k+3 * (na:Int)<0):=by omega
 have p2:¬ (k+3 * (na:Int)+3 * (nb:Int)<0):=by omega
 go_enter Tryz.func17,Tryz.ntmps17
 go_wp2_with fail
 refine (heldTerm_any _ na k _ hl1 (by omega) h0 (by omega)).mono ?_
 rintro e w2 ⟨rfl,hb2⟩
 have hr2:=hr1.keep hb2
 obtain ⟨k0,kf,kz⟩:=(kb.keep hb2).cell
 have k2:=k0 2
 simp only [List.getElem?_toArray,List.getElem?_cons_zero,List.getElem?_cons_succ] at k2
 clear kb k0 hl1 hr1
 go_wp2_with fail
 refine (heldTerm_any _ nb _ _ hr2 (by omega) (by omega) (by omega)).mono ?_
 rintro e w3 ⟨rfl,hb3⟩
 have hB2:=hA.trans (hb2.mono hA.size)
 go_wp2
 go_ret
 exact ⟨rfl,hB2.trans (hb3.mono hB2.size)⟩
theorem Bk.three {w:World} {b:Nat} {t:TypeId} {x y z:Value} (h:Bk w b t #[x,y,z]) :
  w.cell? ⟨b,0,none⟩=some x∧w.cell? ⟨b,1,none⟩=some y∧w.cell? ⟨b,2,none⟩=some z∧b<w.heap.size:=by
 obtain ⟨h1,_,h3⟩:=h.cell
 exact ⟨h1 0,h1 1,h1 2,h3⟩
def DoR (d:RlI) (ok:Bool) (w:World) (e:Ending) (w':World):Prop :=
 ∃ vl vr,e=.returned (.tuple #[.agg #[.string d.name,vl,vr],.bool ok])∧NdsOwn w' w.heap.size vl d.left∧NdsOwn w' w.heap.size vr d.right∧(∀ k,vl.ownBlock=some k → vr.ownBlock ≠ some k)∧Below w.heap.size w w'
theorem bneR (b:Bool):(b != b)=false:=by cases b <;> rfl
theorem lawRu_any (s:ByteArray) (w:World) :
  Calls Tryz.prog 4 #[.string s] w fun r w'=>r=.returned (.bool true)∧Below w.heap.size w w':=by
 by_cases hlong:(1048576:Int)<s.size
 ·go_enter Tryz.func4,Tryz.ntmps4
  go_wp2
  go_ret
  exact ⟨rfl,Below.refl _ _⟩
 have hss:s.size≤4194304:=by omega
 have hlen:=ruleL_len s
 have hspec:=fun (W:World)=>parseRuleS_any s W hss
 have himpl:=fun (W:World)=>parseRuleI_any s W hss
 unfold RuPost at hspec himpl
 obtain ⟨d,hd⟩:∃ d,(ruleL s).getD rl0=d:=⟨_,rfl⟩
 obtain ⟨ok,hok⟩:∃ ok,(ruleL s).isSome=ok:=⟨_,rfl⟩
 rw [hd] at hlen
 have HS:Hid (∀ W,Calls Tryz.prog 13 #[.string s] W (DoR d ok W)):=Lib.hid (fun W=>by have:=hspec W;rw [hd,hok] at this;exact this)
 have HI:Hid (∀ W,Calls Tryz.prog 14 #[.string s] W (DoR d ok W)):=Lib.hid (fun W=>by have:=himpl W;rw [hd,hok] at this;exact this)
 clear hspec himpl hd hok hss
 obtain ⟨hll,hlr⟩:=hlen
 have hbne:=bneR ok
 go_enter Tryz.func4,Tryz.ntmps4
 go_wp2_with fail
 refine (HS.out w).mono ?_
 rintro e w1 ⟨v1l,v1r,rfl,h1l,h1r,-,hb1⟩
 obtain ⟨p1,c1,rfl⟩:=h1l.slice
 obtain ⟨p2,c2,rfl⟩:=h1r.slice
 have kb1:=Bk.new w1 32 #[.string d.name,.slice p1 d.left.length c1,.slice p2 d.right.length c2]
 have hA1:=alloc_below w1 (.cells #[.string d.name,.slice p1 d.left.length c1,.slice p2 d.right.length c2] 32)
 go_wp2_with fail
 have hzW1:(w1.alloc (.cells #[.string d.name,.slice p1 d.left.length c1,.slice p2 d.right.length c2] 32)).heap.size=w1.heap.size+1:=by simp
 generalize w1.alloc (.cells #[.string d.name,.slice p1 d.left.length c1,.slice p2 d.right.length c2] 32)=W1 at kb1 hA1 hzW1 ⊢
 refine (HI.out W1).mono ?_
 rintro e w2 ⟨v2l,v2r,rfl,h2l,h2r,hap,hb2⟩
 obtain ⟨q1,e1,rfl⟩:=h2l.slice
 obtain ⟨q2,e2,rfl⟩:=h2r.slice
 have hz2:=hb2.size
 have hB12:=hA1.trans (hb2.mono hA1.size)
 obtain ⟨x0,x1,x2,xz⟩:=(kb1.keep hb2).three
 have kb2:=Bk.new w2 32 #[.string d.name,.slice q1 d.left.length e1,.slice q2 d.right.length e2]
 have hA2:=alloc_below w2 (.cells #[.string d.name,.slice q1 d.left.length e1,.slice q2 d.right.length e2] 32)
 have HAP:=Lib.hid hap
 clear hap
 go_wp2_with fail
 have hzW2:(w2.alloc (.cells #[.string d.name,.slice q1 d.left.length e1,.slice q2 d.right.length e2] 32)).heap.size=w2.heap.size+1:=by simp
 generalize w2.alloc (.cells #[.string d.name,.slice q1 d.left.length e1,.slice q2 d.right.length e2] 32)=W2 at kb2 hA2 hzW2 ⊢
 have hB1W:=hB12.trans (hA2.mono hB12.size)
 clear x0 x1 x2 xz
 refine (eqRule_any (.slice q1 d.left.length e1) (.slice q2 d.right.length e2) (.slice p1 d.left.length c1) (.slice p2 d.right.length c2) ⟨d.name,d.left,d.right⟩ ⟨d.name,d.left,d.right⟩ W2 (h2l.at.keep hA2) (h2r.at.keep hA2) (h1l.at.keep hB1W) (h1r.at.keep hB1W) (by simp;omega) (by simp;omega) (by simp;omega) (by simp;omega)).mono ?_
 rintro e w3 ⟨rfl,hb3⟩
 rw [show decide ((⟨d.name,d.left,d.right⟩:Rul)=⟨d.name,d.left,d.right⟩)=true by simp]
 have hz3:=hb3.size
 have k13:=((kb1.keep hb2).keep hA2).keep hb3
 have k23:=kb2.keep hb3
 obtain ⟨x0,x1,x2,xz⟩:=k13.three
 obtain ⟨y0,y1,y2,yz⟩:=k23.three
 have hB3:=hB1W.trans (hb3.mono hB1W.size)
 have hC3:=hA2.trans (hb3.mono hA2.size)
 go_wp2_with fail
 clear x0 x1 x2 xz y0 y1 y2 yz
 refine (markRule_any (.slice q1 d.left.length e1) (.slice q2 d.right.length e2) d.left d.right d.name 1 W1.heap.size w3 (h2l.keep hC3) (h2r.keep hC3) HAP.out hll hlr (by omega) (by omega)).mono ?_
 rintro e w4 ⟨rfl,h4l,h4r,hx4⟩
 have hz4:=hx4.size
 have hlt:∀ j,((Value.slice q1 d.left.length e1).ownBlock=some j∨(Value.slice q2 d.right.length e2).ownBlock=some j) → W1.heap.size≤j∧j<w2.heap.size:=fun j hj=>by
  rcases hj with hj|hj
  ·exact World.ownsRow.lt h2l j hj
  ·exact World.ownsRow.lt h2r j hj
 have k14:=k13.exc hx4 (fun hj=>by have:=(hlt _ hj).1;omega)
 have k24:=k23.exc hx4 (fun hj=>by have:=(hlt _ hj).2;omega)
 have h4a:NdsOwn w4 w.heap.size (.slice p1 d.left.length c1) d.left:=owns_exc hx4 (h1l.keep hB3) (fun j hj e=>by have h1:=(hlt _ e).1;have h2:=(World.ownsRow.lt h1l j hj).2;omega)
 have h4b:NdsOwn w4 w.heap.size (.slice p2 d.right.length c2) d.right:=owns_exc hx4 (h1r.keep hB3) (fun j hj e=>by have h1:=(hlt _ e).1;have h2:=(World.ownsRow.lt h1r j hj).2;omega)
 have hB4:Below w.heap.size w w4:=(hb1.trans (hB3.mono hb1.size)).trans (below_exc hx4 (by have:=hb1.size;have:=hB3.size;omega) (fun k hk=>by have:=(hlt k hk).1;have:=hb1.size;omega))
 have HH:Hid (∀ W,Below w4.heap.size w4 W → Calls Tryz.prog 17 #[.agg #[.string d.name,.slice q1 d.left.length e1,.slice q2 d.right.length e2],.int .i64 1] W fun e w'=>e=.returned (.int .i64 (1+3 * d.left.length+3 * d.right.length))∧Below W.heap.size W w'):=Lib.hid (fun W hW=>heldRule_any _ _ _ _ _ _ W (h4l.at.keep hW) (h4r.at.keep hW) hll hlr (by omega) (by omega))
 have pn:¬ ((1:Int)+3 * (d.left.length:Int)+3 * (d.right.length:Int)<0):=by omega
 obtain ⟨y0,y1,y2,yz⟩:=k24.three
 clear h2l h2r hlt hx4 h4l h4r k13 k23 kb1 kb2 hB12 hB1W hB3 hC3 h1l h1r hA1 hA2 hb1 hb2 hb3
 obtain ⟨M,hM⟩:∃ M:Int,M=1+3 * d.left.length+3 * d.right.length:=⟨_,rfl⟩
 rw [← hM] at HH pn ⊢
 have pm:(M != M)=false:=by simp
 clear hM
 go_wp2_with fail
 refine (HH.out w4 (Below.refl _ _)).mono ?_
 rintro e w5 ⟨rfl,hb5⟩
 go_wp2_with fail
 refine (HI.out w5).mono ?_
 rintro e w6 ⟨v6l,v6r,rfl,h6l,h6r,-,hb6⟩
 obtain ⟨g1,f1,rfl⟩:=h6l.slice
 obtain ⟨g2,f2,rfl⟩:=h6r.slice
 have hA6:=alloc_below w6 (.cells #[.string d.name,.slice g1 d.left.length f1,.slice g2 d.right.length f2] 32)
 have hb46:=hb5.trans (hb6.mono hb5.size)
 clear y0 y1 y2 yz
 obtain ⟨x0,x1,x2,xz⟩:=(k14.keep hb46).three
 go_wp2_with fail
 generalize w6.alloc (.cells #[.string d.name,.slice g1 d.left.length f1,.slice g2 d.right.length f2] 32)=W6 at hA6 ⊢
 have hb4W:=hb46.trans (hA6.mono hb46.size)
 refine (eqRule_any (.slice g1 d.left.length f1) (.slice g2 d.right.length f2) (.slice p1 d.left.length c1) (.slice p2 d.right.length c2) ⟨d.name,d.left,d.right⟩ ⟨d.name,d.left,d.right⟩ W6 (h6l.at.keep hA6) (h6r.at.keep hA6) (h4a.at.keep hb4W) (h4b.at.keep hb4W) (by simp;omega) (by simp;omega) (by simp;omega) (by simp;omega)).mono ?_
 rintro e w7 ⟨rfl,hb7⟩
 rw [show decide ((⟨d.name,d.left,d.right⟩:Rul)=⟨d.name,d.left,d.right⟩)=true by simp]
 have hb47:=hb4W.trans (hb7.mono hb4W.size)
 obtain ⟨y0,y1,y2,yz⟩:=(k24.keep hb47).three
 clear x0 x1 x2 xz
 go_wp2_with fail
 refine (HH.out w7 hb47).mono ?_
 rintro e w8 ⟨rfl,hb8⟩
 have hB8:=(hB4.trans (hb47.mono hB4.size))
 have hB9:=hB8.trans (hb8.mono hB8.size)
 go_wp2
 go_ret
 exact ⟨rfl,hB9⟩
end Go.Proofs.YtbljmfcifljkaaaGreatDoor
