/-
  The law of AxiomsOf, walked. Own work.
-/
import Derived.Test.YtbljmfcifljkaaaGreatDoorKAxRu
import Derived.Test.YtbljmfcifljkaaaGreatDoorKRU
set_option linter.all false
set_option maxRecDepth 100000
set_option maxHeartbeats 8000000
namespace Go.Proofs.YtbljmfcifljkaaaGreatDoor
open Go.RowKit
set_option maxRecDepth 100000
set_option maxHeartbeats 8000000
theorem RusAt.shape {w:World} {v:Value} {L:List Rul} (h:RusAt w v L):∃a c,v=.slice a L.length c:=by
 obtain⟨a,cap,rfl,_⟩:=h;exact⟨a,cap,rfl⟩
theorem ruLen_small:∀(L:List Rul),(∀x∈L,x.left.length≤13∧x.right.length≤13)→ruLen L≤79*L.length
 | [],_=>by simp[ruLen]
 | x::L,h=>by
  have h1:=h x (by simp);have h2:=ruLen_small L (fun y hy=>h y (by simp[hy]));simp only[ruLen,List.length_cons];omega
theorem ownR_lt {w:World} {B:Nat} {v:Value} {xs:List RuV} (h:RuRow w B v xs):∀k,OwnR v xs k→B≤k∧k<w.heap.size:=by
 rintro k (hk|⟨x,hx,hk|hk⟩)
 ·exact World.ownsRow.lt h.1 k hk
 ·exact World.ownsRow.lt (h.2.1 x hx).1 k hk
 ·exact World.ownsRow.lt (h.2.1 x hx).2.1 k hk
def AxDoS (L:List Rul) (b:Bool) (w:World) (e:Ending) (w':World):Prop :=
 ∃v xs,e=.returned (.tuple #[v,.bool b])∧xs.map Prod.fst=L∧RuS w' w.heap.size v xs∧Below w.heap.size w w'
def AxDoI (L:List Rul) (b:Bool) (w:World) (e:Ending) (w':World):Prop :=
 ∃v xs,e=.returned (.tuple #[v,.bool b])∧xs.map Prod.fst=L∧RuRow w' w.heap.size v xs∧Below w.heap.size w w'
theorem lawAx_any (p k l:Int) (w:World) (ht:PrimeTab w) :
  Calls Tryz.prog 3 #[.int .i64 p,.int .i64 k,.int .i64 l] w fun r w'=>r=.returned (.bool true)∧Below w.heap.size w w':=by
 have hspec:∀w1,Calls Tryz.prog 8 #[.int .i64 p,.int .i64 k,.int .i64 l] w1 (AxDoS (if twoB p k l then axL p k l else[]) (twoB p k l) w1):=fun w1 =>
  axiomsOfS_any p k l w1 fun h w2=>axRules_any p k l w2 (twoB_in h).1 (twoB_in h).2.1 (twoB_in h).2.2
 have himpl:∀w1,PrimeTab w1→Calls Tryz.prog 9 #[.int .i64 p,.int .i64 k,.int .i64 l] w1 (AxDoI (if twoB p k l then axL p k l else[]) (twoB p k l) w1):=fun w1 h1 =>
  axiomsOf_any p k l w1 h1
 have hsm:(if twoB p k l then axL p k l else[]).length≤46∧∀x∈(if twoB p k l then axL p k l else[]),x.left.length≤13∧x.right.length≤13:=by
  split
  ·rename_i h
   exact axL_small (twoB_in h).1 (twoB_in h).2.1 (twoB_in h).2.2
  ·simp
 obtain⟨L,hL⟩:∃L,L=(if twoB p k l then axL p k l else[]):=⟨_,rfl⟩
 obtain⟨b,hb⟩:∃b,b=twoB p k l:=⟨_,rfl⟩
 rw[←hL]at hsm;rw[←hL,←hb]at hspec himpl;clear hL hb;have HS:=Lib.hid hspec;have HI:=Lib.hid himpl;clear hspec himpl;obtain⟨hlen,hsm⟩:=hsm;have hrl:=ruLen_small L hsm;have hr0:=ruLen_nonneg L;have hbig:∀d∈L,d.left.length≤1048576∧d.right.length≤1048576:=fun d hd=>by have:=hsm d hd;omega
 have hl5:L.length≤1048576:=by omega
 have hm8:1+ruLen L≤8388608:=by omega
 have hbn:(b != b)=false:=by simp
 have HSM:=Lib.hid (And.intro hlen hsm);clear hlen hsm hrl;go_enter Tryz.func3,Tryz.ntmps3;go_wp2_with fail
 refine(HS.out _).mono ?_;rintro e w1⟨v1,xs1,rfl,hx1,hr1,hb1⟩;have hat1:=hr1.at
 rw[hx1]at hat1;obtain⟨a1,c1,rfl⟩:=hat1.shape;clear hx1 hr1 xs1;go_wp2_with fail
 refine(HI.out _ (ht.keep hb1)).mono ?_;rintro e w2⟨v2,xs2,rfl,hx2,hr2,hb2⟩;have hat2:=hr2.at
 rw[hx2]at hat2;obtain⟨a2,c2,rfl⟩:=hat2.shape;have hl2:xs2.length=L.length:=by rw[←hx2,List.length_map]
 have hlR:lenR xs2=ruLen L:=by unfold lenR;rw[hx2]
 have hT:=ownR_lt hr2;go_wp2_with fail
 refine(eqRuleS_any _ _ L L _ hat2 (hat1.keep hb2) hl5 hl5 hbig hbig).mono ?_;rintro e w3⟨rfl,hb3⟩;rw[show decide (L=L)=true by simp];have hr3:=hr2.keep hb3;have HX:=Lib.hid (And.intro hx2 (And.intro hl2 hlR));clear hat2;have hbx:∀x∈xs2,x.1.left.length≤1048576∧x.1.right.length≤1048576:=fun x hx=>hbig _ (by rw[←hx2];exact List.mem_map_of_mem hx);have hnx:xs2.length≤1048576:=by omega
 have hmx:1+lenR xs2≤8388608:=by rw[hlR];exact hm8
 clear hx2 hl2 hlR;go_wp2_with fail
 refine(markRuleS_any _ xs2 1 _ _ hr3 hnx hbx (by omega) hmx).mono ?_;rintro e w4⟨rfl,hr4,hex4⟩;rw[HX.out.2.2];have hat4:=hr4.at
 rw[markedR_all,HX.out.1]at hat4;have hz2:=hb2.size;have hz3:=hb3.size;have hb4:Below w1.heap.size w3 w4:=below_exc hex4 (by omega) (fun k hk=>(hT k hk).1);have hb14:Below w1.heap.size w1 w4:=hb2.trans ((hb3.mono hz2).trans hb4);have hnk:¬(1+ruLen L<0):=by omega
 have hne:(1+ruLen L != 1+ruLen L)=false:=by simp
 go_wp2_with fail
 refine(heldRuleS_any _ L 1 _ hat4 hl5 hbig (by omega) hm8).mono ?_;rintro e w5⟨rfl,hb5⟩;have hz4:=hb4.size;have hb15:=hb14.trans (hb5.mono (by omega));have hat5:=hat4.keep hb5;go_wp2_with fail
 refine(HI.out _ (ht.keep (hb1.trans (hb15.mono hb1.size)))).mono ?_;rintro e w6⟨v6,xs6,rfl,hx6,hr6,hb6⟩;have hat6:=hr6.at
 rw[hx6]at hat6;obtain⟨a6,c6,rfl⟩:=hat6.shape;clear hx6 hr6 xs6;have hb16:=hb15.trans (hb6.mono hb15.size);go_wp2_with fail
 refine(eqRuleS_any _ _ L L _ hat6 (hat1.keep hb16) hl5 hl5 hbig hbig).mono ?_;rintro e w7⟨rfl,hb7⟩;rw[show decide (L=L)=true by simp];go_wp2_with fail
 refine(heldRuleS_any _ L 1 _ (hat5.keep (hb6.trans (hb7.mono hb6.size))) hl5 hbig (by omega) hm8).mono ?_;rintro e w8⟨rfl,hb8⟩;go_wp2;go_ret
 exact⟨rfl,hb1.trans ((hb16.trans ((hb7.trans (hb8.mono hb7.size)).mono hb16.size)).mono hb1.size)⟩
end Go.Proofs.YtbljmfcifljkaaaGreatDoor
