/-
  The walk of leafText. Own work.
-/
import Derived.Test.YtikgblkfmpecfaaGreatDoorWT
import Derived.Deep.RegionWith
import Derived.Test.YtikgblkfmpecfaaGreatDoorWC
import Derived.Test.YtikgblkfmpecfaaGreatDoorWA
import Derived.Laws.IdiomStrings
set_option linter.all false
set_option maxRecDepth 100000
set_option maxHeartbeats 8000000
namespace Go.Proofs.YtikgblkfmpecfaaGreatDoor
open Go.RowKit
theorem aao (k:Nat) (hk:k<15) (w:World):Calls Tryz.prog 142 #[] w λe w'=>∃n:Nat,e=.returned (.slice (some ⟨w.heap.size,0,none⟩) n n)/\k<n/\w'.cell? ⟨w.heap.size,k,none⟩=some (.string (word k))/\Below w.heap.size w w'/\w.heap.size<w'.heap.size :=
 (UZ w).mono λe w' ⟨n,q1,q2,q3,q4,q5,q6⟩=>⟨n,q1,by omega,agn q4 rfl hk,q5,q6⟩
theorem agp (k:Nat) (nv:Int) (nn:ByteArray) (w:World) (h1:1<=k) (h2:k<=14) (hv:¬((k:Int)=1\/(k:Int)=7\/(k:Int)=13)) :
  Calls Tryz.prog 86 #[.agg #[.int .i64 k,.int .i64 nv,.string nn]] w λe w'=>e=.returned (.string (word k))/\Below w.heap.size w w':=by
 have g1:((k:Int)==17)=false:=by simp;omega
 have g2:((k:Int)==1)=false:=by simp;omega
 have g3:mQ k=false:=by simp[mQ];omega
 have hk0:(0:Int)<=k:=by omega
 clear hv;go_enter Tryz.func86,Tryz.ntmps86;go_wp2_with (go_at_call 141;refine(yN _ _).mono ?_;rintro e w1⟨rfl,rfl⟩)
 go_region_with ((go_at_call 142;refine(aao k (by omega) _).mono ?_;rintro e w3⟨n3,rfl,hkn,hc0,hb3,hz3⟩;obtain⟨hc3,hf3,hs3⟩:=bH hb3;simp only[World.size_alloc,World.size_drew]at hc0 hz3 hs3 hb3 hc3 hf3))
 all_goals (go_wp2;go_ret;refine⟨rfl,?_⟩;first|(refine Below.trans ?_ (Below.mono hb3 (by omega));repeat(first|exact Below.refl _ _|with_reducible refine Below.drew ?_|refine Below.alloc ?_ (by simp<;>omega) _))|(with_reducible refine Below.drew ?_;refine Below.trans ?_ (Below.mono hb3 (by omega));repeat(first|exact Below.refl _ _|with_reducible refine Below.drew ?_|refine Below.alloc ?_ (by simp<;>omega) _)))
theorem agq (k:Nat) (nv:Int) (nn:ByteArray) (w:World) (h1:1<=k) (h2:k<=14) (hv:(k:Int)=1\/(k:Int)=7\/(k:Int)=13) (h3:0<=nv) (h4:nv<=96) :
  Calls Tryz.prog 86 #[.agg #[.int .i64 k,.int .i64 nv,.string nn]] w λe w'=>e=.returned (.string (word k++iH++eG nv))/\Below w.heap.size w w':=by
 have g1:((k:Int)==17)=false:=by simp;omega
 have hvv:((k:Int)==1)=true\/(((k:Int)==1)=false/\mQ k=true):=by
  rcases hv with h|h|h
  ·exact .inl (by simp[h])
  ·exact .inr ⟨by rw[h];rfl,by rw[h];rfl⟩
  ·exact .inr ⟨by rw[h];rfl,by rw[h];rfl⟩
 have hk0:(0:Int)<=k:=by omega
 have hsz:=Io k;have hsz2:=Il h3 h4;have hbz:(word (k:Int)++iH).size<=10:=by rw[bsize];have:iH.size=1:=rfl;omega
 clear hv;rcases hvv with g2|⟨g2,g3⟩
 all_goals
  go_enter Tryz.func86,Tryz.ntmps86
  go_wp2_with (go_at_call 141;refine(yN _ _).mono ?_;rintro e w1⟨rfl,rfl⟩)
  go_region_with ((first|(go_at_call 142;refine(aao k (by omega) _).mono ?_;rintro e w3⟨n3,rfl,hkn,hc0,hb3,hz3⟩;obtain⟨hc3,hf3,hs3⟩:=bH hb3;simp only[World.size_alloc,World.size_drew]at hc0 hz3 hs3 hb3 hc3 hf3)|(go_at_call 131;refine(agm nv _ h3 h4).mono ?_;rintro e w4⟨rfl,rfl⟩)))
  all_goals (go_wp2;go_ret;refine⟨rfl,?_⟩;first|(refine Below.trans ?_ (Below.mono hb3 (by omega));repeat(first|exact Below.refl _ _|with_reducible refine Below.drew ?_|refine Below.alloc ?_ (by simp<;>omega) _))|(with_reducible refine Below.drew ?_;refine Below.trans ?_ (Below.mono hb3 (by omega));repeat(first|exact Below.refl _ _|with_reducible refine Below.drew ?_|refine Below.alloc ?_ (by simp<;>omega) _)))
theorem agr (m:Nat):(wP m).toNat=48+m % 10:=by
 unfold wP;have h:(48+m % 10)<256:=by omega
 rw[UInt8.toNat_ofNat_of_lt' h]
theorem MK (W:World) (b m:Nat) (hc:W.cell? ⟨b,0,none⟩=some (.int .u8 (48+(m:Int) % 10))):(convert 22 9 (.slice (some ⟨b,0,none⟩) 1 1)).run Tryz.prog W=.ok (.string ⟨#[wP m]⟩) W:=by
 have:=run_convert_bytes_back (P:=Tryz.prog) W 22 9 5 ⟨b,0,none⟩ 1 [wP m] Tryz.underlying22 Tryz.underlying5 Tryz.underlying9 (by
  intro j hj;have:j=0:=by simpa using hj
  subst this;simp[Addr.add,hc,agr])
 simpa using this
theorem ags (n:Nat) (w:World) (h:n<10) :
  Calls Tryz.prog 106 #[.int .i64 n] w λe w'=>e=.returned (.string ⟨(Lib.decDigits n).toArray⟩)/\Below w.heap.size w w':=by
 have h1:((n:Int)<10):=by omega
 have hcv:=MK (w.alloc (.cells #[.int .u8 (48+(n:Int))] 5)) w.heap.size n (by simp;omega);have HR:Hid (Lib.decDigits n=[wP n]):=(show _=_ by rw[Lib.decDigits,dif_pos h,wP,Nat.mod_eq_of_lt h])
 go_enter Tryz.func106,Tryz.ntmps106;go_wp2;go_ret
 exact⟨by rw[HR.out];rfl,aj _ _⟩
theorem agt (n:Nat) (w:World) (h:10<=n) (h2:n<=1000000) (hs:(Lib.decDigits (n / 10)).length<=100) (ih:∀w,Calls Tryz.prog 106 #[.int .i64 ((n / 10:Nat):Int)] w λe w'=>e=.returned (.string ⟨(Lib.decDigits (n / 10)).toArray⟩)/\Below w.heap.size w w') :
  Calls Tryz.prog 106 #[.int .i64 n] w λe w'=>e=.returned (.string ⟨(Lib.decDigits n).toArray⟩)/\Below w.heap.size w w':=by
 have h1:¬((n:Int)<10):=by omega
 have hcv:=λW b=>MK W b n;have HR:Hid (Lib.decDigits n=Lib.decDigits (n / 10)++[wP n]):=(show _=_ by rw[Lib.decDigits,dif_neg (by omega),wP])
 have ih':∀w,Calls Tryz.prog 106 #[.int .i64 ((n:Int) / 10)] w λe w'=>e=.returned (.string ⟨(Lib.decDigits (n / 10)).toArray⟩)/\Below w.heap.size w w':=λw=>by have:=ih w;rwa [Int.natCast_ediv]at this
 have hn0:(0:Int)<=n:=by omega
 have e1:IntKind.i64.wrap ((n:Int) / 10)=(n:Int) / 10:=IntWalk.i64_in _ (by omega);have e2:(n:Int).tmod 10=(n:Int) % 10:=Int.tmod_eq_emod_of_nonneg (by omega);have e3:IntKind.i64.wrap (48+(n:Int) % 10)=48+(n:Int) % 10:=IntWalk.i64_in _ (by omega);have e4:IntKind.u8.wrap (48+(n:Int) % 10)=48+(n:Int) % 10:=IntWalk.u8_in _ (by omega);have hcd:∀(W:World),(convert 22 9 (.slice (some ⟨W.heap.size,0,none⟩) 1 1)).run Tryz.prog (W.alloc (.cells #[.int .u8 (48+(n:Int) % 10)] 5))=.ok (.string ⟨#[wP n]⟩) (W.alloc (.cells #[.int .u8 (48+(n:Int) % 10)] 5)):=λW=>MK _ _ n (by simp);have n1:¬9223372036854775807<(Lib.decDigits (n / 10)).length+1:=by omega
 clear hcv;have hcv:=λW b=>MK W b n;go_enter Tryz.func106,Tryz.ntmps106;go_wp2_with fail
 go_region_with ((go_at_call 106;refine(ih' _).mono ?_;rintro e w1⟨rfl,hb1⟩;obtain⟨hc1,hf1,hs1⟩:=bH hb1;simp only[World.size_alloc,World.size_drew]at hb1 hc1 hf1 hs1))
 all_goals
  go_wp2
  go_ret
  refine⟨by first|(rw[HR.out];done)|(rw[HR.out];rfl),?_⟩
  first|exact((Below.refl _ _).drew.trans (hb1.mono (by simp)))|exact((Below.refl _ _).drew.trans (hb1.mono (by simp))).alloc (by omega) _|exact((aj w _).drew.trans (hb1.mono (by omega)))|(refine Below.trans ?_ (Below.mono hb1 (by omega));repeat(first|exact Below.refl _ _|with_reducible refine Below.drew ?_|refine Below.alloc ?_ (by simp<;>omega) _))|(repeat(first|exact(Below.refl _ _).drew.trans (hb1.mono (by omega))|with_reducible refine Below.drew ?_|refine Below.alloc ?_ (by simp<;>omega) _))
end Go.Proofs.YtikgblkfmpecfaaGreatDoor
