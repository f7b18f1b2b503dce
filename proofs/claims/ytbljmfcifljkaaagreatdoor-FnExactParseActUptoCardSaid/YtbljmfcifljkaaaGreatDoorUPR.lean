/-
  Acts read from texts: small laws for the walks. Own work.
-/
import Derived.Test.YtbljmfcifljkaaaGreatDoorUAT
import Derived.Test.YtbljmfcifljkaaaGreatDoorUAC
import Derived.Test.YtbljmfcifljkaaaGreatDoorUT
set_option linter.all false
set_option maxRecDepth 100000
set_option maxHeartbeats 8000000
namespace Go.Proofs.YtbljmfcifljkaaaGreatDoor
open Go.RowKit
theorem str_yes {a b:ByteArray} (h:a=b):(a.toList == b.toList)=true:=by rw [str_beq];simp [h]
theorem str_no {a b:ByteArray} (h:¬ a=b):(a.toList == b.toList)=false:=by rw [str_beq];simp [h]
theorem bytes_eq_iff {x:ByteArray} {n:List UInt8}:x.data.toList=n ↔ x=bytesOf n :=
 ⟨fun h=>by rw [← h,bytesOf_toList],fun h=>by rw [h,bytesOf_list]⟩
theorem find_at {L:List Rul} {n:List UInt8} {i:Nat} (hi:i<L.length) (h:L[i].name=bytesOf n) (hb:∀ j,∀ hj:j<L.length,j<i → (L[j]'hj).name ≠ bytesOf n):findI (L.map Rul.name) n=some i:=by
 unfold findI
 rw [List.findIdx?_eq_some_iff_getElem]
 refine ⟨by simpa using hi,?_,fun j hj=>?_⟩
 ·rw [List.getElem_map,beq_iff_eq];exact bytes_eq_iff.2 h
 ·rw [List.getElem_map,beq_iff_eq]
  exact fun e=>hb j (by omega) hj (bytes_eq_iff.1 e)
theorem find_no {L:List Rul} {n:List UInt8} (h:∀ j,∀ hj:j<L.length,(L[j]'hj).name ≠ bytesOf n):findI (L.map Rul.name) n=none:=by
 unfold findI
 rw [List.findIdx?_eq_none_iff]
 intro x hx
 obtain ⟨r,hr,rfl⟩:=List.mem_map.1 hx
 obtain ⟨j,hj,rfl⟩:=List.mem_iff_getElem.1 hr
 rw [beq_eq_false_iff_ne]
 exact fun e=>h j hj (bytes_eq_iff.1 e)
theorem acTry_short {ns:List ByteArray} {P:List (List UInt8)} {k:Nat} (h:2<k∨P.length ≠ 3):acTry ns P k=⟨k,0,0⟩:=by
 unfold acTry
 split
 ·rfl
 ·rename_i hk
  rcases h with h|h
  ·exact absurd h hk
  ·match P,h with
   | [],_=>rfl
   | [_],_=>rfl
   | [_,_],_=>rfl
   | [_,_,_],h=>exact absurd rfl h
   | _ :: _ :: _ :: _ :: _,_=>rfl
theorem acTry_three {ns:List ByteArray} {P:List (List UInt8)} {k:Nat} (h:¬ 2<k) (hP:P.length=3):acTry ns P k=⟨k,((findI ns (P[1]'(by omega))).getD 0:Nat),atV (P[2]'(by omega))⟩:=by
 match P,hP with
 | [a,b,c],_=>unfold acTry;rw [if_neg h];rfl
theorem head_get {P:List (List UInt8)} (h:0<P.length):P.headD []=P[0]:=by
 cases P with
 | nil=>simp at h
 | cons a b=>rfl
theorem acParse_at {ns:List ByteArray} {T:ByteArray} {k:Nat} (hk:1≤k∧k≤6) (h:acWord k=bytesOf ((parts T).headD [])):acParse ns T=acReadI ns T k:=by
 unfold acParse
 rw [kind_at hk (bytes_eq_iff.2 h)]
theorem acParse_no {ns:List ByteArray} {T:ByteArray} (h:∀ k:Nat,1≤k → k<7 → acWord k ≠ bytesOf ((parts T).headD [])):acParse ns T=none:=by
 unfold acParse
 rw [kind_no fun k h1 h2 e=>h k h1 (by omega) (bytes_eq_iff.1 e)]
def AcPP (o:Option AcI) (w:World) (e:Ending) (w':World):Prop:=∃ k r a:Int,e=.returned (.tuple #[.agg #[.int .i64 k,.int .i64 r,.int .i64 a],.bool o.isSome])∧(∀ u,o=some u → u=⟨k,r,a⟩)∧Below w.heap.size w w'
theorem part_size {T:ByteArray} {p:List UInt8} (h:p ∈ parts T):(bytesOf p).size≤T.size:=by
 have:=splitB_each 32 _ _ _ h
 have h2:(bytesOf p).size=p.length:=by simp [bytesOf,ByteArray.size]
 simp at this
 omega
theorem parts_len (T:ByteArray):(parts T).length≤T.size+1:=by
 have:=splitB_len 32 T.data.toList []
 simpa [parts] using this
theorem PartsAt.shape {w:World} {v:Value} {P:List (List UInt8)} (h:PartsAt w v P):∃ a c,v=.slice a P.length c:=by
 obtain ⟨a,cap,rfl,_⟩:=h;exact ⟨a,cap,rfl⟩
end Go.Proofs.YtbljmfcifljkaaaGreatDoor
/-
  strings.Split and strconv.Atoi at this dump, at worlds that hold their variables. Own work.
-/
namespace Go.Proofs.YtbljmfcifljkaaaGreatDoor
open Go.RowKit
def SplTab (w:World):Prop:=∃ m,w.cell? ⟨4,0,none⟩=some (.int .i64 m)
theorem SplTab.keep {w w':World} (hb:Below w.heap.size w w') (h:SplTab w):SplTab w':=⟨h.choose,cell_keep hb h.choose_spec⟩
theorem splTab {w:World} (h:w.ShapedOpen Tryz.prog):SplTab w :=
 cell_of_shapedOpen_int (zero:=#[.int .i64 0]) (t:=3) h (of_decide_eq_true (by kernel_rfl)) (by kernel_rfl) rfl (by kernel_rfl) (by kernel_rfl) Tryz.underlying3
theorem split_any (T:ByteArray) (w:World) (ht:SplTab w) (hs:T.size≤4194304) :
  Calls Tryz.prog 130 #[.string T,.string ⟨#[32]⟩] w fun e w'=>∃ v,e=.returned v∧PartsAt w' v (parts T)∧Below w.heap.size w w':=by
 obtain ⟨m,hm⟩:=ht
 refine (Any.strings_Split { Tryz.laysM146 with } Tryz.laysM146.i9 T ⟨#[32]⟩ m w (by omega) hm (Nat.le_refl _)).mono ?_
 rintro e w' ⟨rfl,rfl⟩
 have hl:=Lib.splitB_all ⟨#[32]⟩ (Nat.le_refl _) 0 _ T rfl
 rw [splitB_lib] at hl ⊢
 rw [← hl]
 refine ⟨_,rfl,?_,alloc_below _ _⟩
 have hk:=Bk.new w 9 (((splitB 32 [] T.data.toList).map bytesOf).map Value.string).toArray
 refine ⟨_,_,by rw [List.length_map];rfl,Nat.le_refl _,fun i hi=>⟨_,_,rfl,hi,?_⟩⟩
 have h2:=hk.cell.1 (0+i * 1)
 refine h2.trans ?_
 have hi':i<(splitB 32 [] T.data.toList).length:=hi
 rw [Nat.zero_add,Nat.mul_one,List.getElem?_toArray,List.getElem?_map,List.getElem?_map,List.getElem?_eq_getElem hi']
 rfl
def AtoTab (w:World):Prop:=(∃ te pe,w.cell? ⟨1,0,none⟩=some (.iface te pe))∧∃ te pe,w.cell? ⟨2,0,none⟩=some (.iface te pe)
theorem AtoTab.keep {w w':World} (hb:Below w.heap.size w w') (h:AtoTab w):AtoTab w':=by
 obtain ⟨⟨a,b,h1⟩,c,d,h2⟩:=h
 exact ⟨⟨a,b,cell_keep hb h1⟩,c,d,cell_keep hb h2⟩
theorem atoi_any (s:ByteArray) (w:World) (ht:AtoTab w) (hs:s.size≤4194304) :
  Calls Tryz.prog 131 #[.string s] w fun e w'=>∃ ev,e=.returned (.tuple #[.int .i64 (atV s.data.toList),ev])∧Below w.heap.size w w':=by
 obtain ⟨⟨a,b,h1⟩,c,d,h2⟩:=ht
 unfold atV
 rcases hq:Lib.atoiAll s.data.toList with v|_|_
 ·refine (Tryz.strconv_Atoi_ok s (by omega) v hq w).mono ?_
  rintro e w' ⟨rfl,hw⟩
  refine ⟨_,rfl,?_⟩
  rcases hw with rfl|⟨t,rfl⟩
  ·exact Below.refl _ _
  ·exact bytes_below _ _ _
 ·refine (Tryz.strconv_Atoi_syntax s (by omega) hq _ w h1 (.inr ⟨_,_,rfl⟩)).mono ?_
  rintro e w' ⟨N,rfl,-,-,hb⟩
  exact ⟨_,rfl,hb⟩
 ·refine (Tryz.strconv_Atoi_range s (by omega) hq _ w h2 (.inr ⟨_,_,rfl⟩)).mono ?_
  rintro e w' ⟨N,rfl,-,-,hb⟩
  exact ⟨_,rfl,hb⟩
end Go.Proofs.YtbljmfcifljkaaaGreatDoor
