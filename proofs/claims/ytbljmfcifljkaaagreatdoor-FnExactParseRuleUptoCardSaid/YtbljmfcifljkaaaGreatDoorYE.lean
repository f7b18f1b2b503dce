/-
  Walks: a text among texts, words, names, finding a definition. Own work.
-/
import Derived.Test.YtbljmfcifljkaaaGreatDoorYC
import Derived.Test.YtbljmfcifljkaaaGreatDoorYD
import Derived.Maps.Own
import Derived.Maps.OwnOps
import Derived.Maps.OwnSet
import Derived.Test.YtbljmfcifljkaaaGreatDoorYB
set_option linter.all false
set_option maxRecDepth 100000
set_option maxHeartbeats 8000000
namespace Go.Proofs.YtbljmfcifljkaaaGreatDoor
open Go.RowKit
def hasS (s:ByteArray):List ByteArray → Bool
 | []=>false
 | x :: r=>decide (x=s) || hasS s r
theorem l1HasS_any (v:Value) (ss:List ByteArray) (s:ByteArray) (w:World) (hv:StrsAt w v ss) (hn:ss.length≤1048576) :
  Calls Tryz.prog 233 #[v,.string s] w fun e w'=>e=.returned (.bool (hasS s ss))∧w=w':=by
 obtain ⟨a,cap,rfl,hc,hat⟩:=hv
 go_enter Tryz.func233,Tryz.ntmps233
 go_wp2
 go_loop [9] (fun i=>∃ k:Nat,k≤ss.length∧i=.int .i64 k∧Hid (hasS s ss=hasS s (ss.drop k))) (fun i=>ss.length - (intOf i).toNat)
 case atStart=>exact ⟨0,by omega,rfl,(show Hid _ from (by simp [Hid]:Hid (hasS s ss=hasS s (ss.drop 0))))⟩
 case round =>
  obtain ⟨k,hk,rfl,HF⟩:=hrel
  by_cases hlt:k<ss.length
  ·obtain ⟨b,o,rfl,_,c0⟩:=hat k hlt
   simp only [Nat.mul_one] at c0
   clear hat
   by_cases he:ss[k]=s
   ·have g1:(ss[k].toList == s.toList)=true:=by rw [str_beq];simp [he]
    have HK:Hid (hasS s ss=true):=by
     show hasS s ss=true
     rw [HF.out,List.drop_eq_getElem_cons hlt,hasS];simp [he]
    clear he
    go_wp2
    go_ret
    exact ⟨ret_bool HK.out.symm,rfl⟩
   ·have g1:(ss[k].toList == s.toList)=false:=by rw [str_beq];simp [he]
    have HK:Hid (hasS s ss=hasS s (ss.drop (k+1))):=by
     show hasS s ss=_
     rw [HF.out,List.drop_eq_getElem_cons hlt,hasS];simp [he]
    clear he
    go_wp2
    go_round
    case rel=>exact ⟨k+1,by omega,by go_num,HK⟩
    case measure=>simp [intOf];omega
  ·go_wp2
   go_ret
   exact ⟨ret_bool (by rw [HF.out,List.drop_eq_nil_of_le (by omega)];rfl),rfl⟩
theorem lbWord_any (s:ByteArray) (w:World) (hs:s.size≤1048576) :
  Calls Tryz.prog 232 #[.string s] w fun e w'=>e=.returned (.bool (wordB s))∧w=w':=by
 by_cases hsz:1≤s.size∧s.size≤8
 ·have h0:0<s.size:=by omega
  have g1:inB s.size 1 8=true:=by simp [inB];omega
  cases hl:lowB s[0] with
  | false =>
   have hl':(s[0].toNat:Int)<97∨122<(s[0].toNat:Int):=by simp [lowB] at hl;omega
   have HF:=Lib.hid (wordB_low hsz hl)
   clear hl
   rcases hl' with hl'|hl'
   all_goals
    go_enter Tryz.func232,Tryz.ntmps232
    go_wp2_with (go_at_call 80;refine (l1In_any _ _ _ _).mono ?_;rintro e w1 ⟨rfl,rfl⟩)
    go_ret
    exact ⟨ret_bool HF.out.symm,rfl⟩
  | true =>
   have hl':(97:Int)≤(s[0].toNat:Int)∧(s[0].toNat:Int)≤122:=by simp [lowB] at hl;omega
   have HF0:=Lib.hid (wordB_rest hsz hl)
   clear hl
   obtain ⟨hl1,hl2⟩:=hl'
   go_enter Tryz.func232,Tryz.ntmps232
   go_wp2_with (go_at_call 80;refine (l1In_any _ _ _ _).mono ?_;rintro e w1 ⟨rfl,rfl⟩)
   go_loop [3] (fun i=>∃ k:Nat,1≤k∧k≤s.size∧i=.int .i64 k∧Hid (wordB s=restB s k)) (fun i=>s.size - (intOf i).toNat)
   case atStart=>exact ⟨1,by omega,by omega,rfl,HF0⟩
   case round =>
    obtain ⟨k,hk1,hk,rfl,HF⟩:=hrel
    clear HF0
    by_cases hlt:k<s.size
    ·have hst:=restB_step s k hlt
     rcases (show (s[k].toNat:Int)<48∨((48:Int)≤s[k].toNat∧(s[k].toNat:Int)≤57)∨((57:Int)<s[k].toNat∧(s[k].toNat:Int)<97)∨((97:Int)≤s[k].toNat∧(s[k].toNat:Int)≤122)∨(122:Int)<s[k].toNat from by omega) with q|q|q|q|q
     ·have HK:Hid (wordB s=false):=(show wordB s=false by rw [HF.out,hst];simp [lodB,lowB,digB];intro h;omega)
      clear hst HF
      go_wp2
      go_ret
      exact ⟨ret_bool HK.out.symm,rfl⟩
     ·have HK:Hid (wordB s=restB s (k+1)):=(show wordB s=_ by rw [HF.out,hst];have:lodB s[k]=true:=(by simp [lodB,lowB,digB];omega);rw [this];rfl)
      clear hst HF
      obtain ⟨q1,q2⟩:=q
      go_wp2
      go_round
      case rel=>exact ⟨k+1,by omega,by omega,by go_num,HK⟩
      case measure=>simp [intOf];omega
     ·have HK:Hid (wordB s=false):=(show wordB s=false by rw [HF.out,hst];simp [lodB,lowB,digB];intro h;omega)
      clear hst HF
      obtain ⟨q1,q2⟩:=q
      go_wp2
      go_ret
      exact ⟨ret_bool HK.out.symm,rfl⟩
     ·have HK:Hid (wordB s=restB s (k+1)):=(show wordB s=_ by rw [HF.out,hst];have:lodB s[k]=true:=(by simp [lodB,lowB,digB];omega);rw [this];rfl)
      clear hst HF
      obtain ⟨q1,q2⟩:=q
      go_wp2
      go_round
      case rel=>exact ⟨k+1,by omega,by omega,by go_num,HK⟩
      case measure=>simp [intOf];omega
     ·have HK:Hid (wordB s=false):=(show wordB s=false by rw [HF.out,hst];simp [lodB,lowB,digB];intro h;omega)
      clear hst HF
      go_wp2
      go_ret
      exact ⟨ret_bool HK.out.symm,rfl⟩
    ·go_wp2
     go_ret
     exact ⟨ret_bool (by rw [HF.out,restB_end s k (by omega)]),rfl⟩
 ·have g1:inB s.size 1 8=false:=by simp [inB];omega
  go_enter Tryz.func232,Tryz.ntmps232
  go_wp2_with (go_at_call 80;refine (l1In_any _ _ _ _).mono ?_;rintro e w1 ⟨rfl,rfl⟩)
  go_ret
  exact ⟨ret_bool (by simp [wordB_no hsz]),rfl⟩
theorem wordFrom_range (s:ByteArray) (l:List ByteArray):∀ k:Nat,(hasS s l=true → (k:Int)≤wordFrom s 17 l k∧wordFrom s 17 l k<k+l.length)∧(hasS s l=false → wordFrom s 17 l k=17):=by
 induction l with
 | nil=>intro k;simp [hasS,wordFrom]
 | cons x r ih =>
  intro k
  obtain ⟨h1,h2⟩:=ih (k+1)
  constructor
  ·intro h
   unfold wordFrom
   split
   ·simp;omega
   ·rename_i hne
    have:hasS s r=true:=by simpa [hasS,hne] using h
    have:=h1 this
    simp;omega
  ·intro h
   simp only [hasS,Bool.or_eq_false_iff,decide_eq_false_iff_not] at h
   unfold wordFrom
   rw [if_neg h.1]
   exact h2 h.2
theorem nameB_eq (s:ByteArray):nameB s=(wordB s && !hasS s reserved):=by
 unfold nameB
 cases hw:wordB s with
 | false=>rfl
 | true =>
  have hne:¬ (⟨#[]⟩:ByteArray)=s:=by
   intro h
   rw [wordB_no (by rw [← h];decide)] at hw
   cases hw
  have h0:kindOfW s=wordFrom s 17 reserved 1:=by unfold kindOfW kwords wordFrom;rw [if_neg hne];rfl
  have:=wordFrom_range s reserved 1
  have hl:reserved.length=14:=rfl
  rw [h0]
  cases hh:hasS s reserved with
  | false=>simp [this.2 hh]
  | true =>
   have:=this.1 hh
   simp
   omega
theorem lbName_any (s:ByteArray) (w:World) (hs:s.size≤1048576) :
  Calls Tryz.prog 171 #[.string s] w fun e w'=>e=.returned (.bool (nameB s))∧Below w.heap.size w w':=by
 have HE:=Lib.hid (nameB_eq s)
 cases hw:wordB s with
 | false =>
  go_enter Tryz.func171,Tryz.ntmps171
  go_wp2_with (go_at_call 232;refine (lbWord_any _ _ hs).mono ?_;rintro e w1 ⟨rfl,rfl⟩)
  go_ret
  exact ⟨ret_bool (by rw [HE.out,hw];rfl),Below.refl _ _⟩
 | true =>
  go_enter Tryz.func171,Tryz.ntmps171
  go_wp2_with (first|(go_at_call 232;refine (lbWord_any _ _ hs).mono ?_;rintro e w1 ⟨rfl,rfl⟩)|(go_at_call 231;refine (lbReserved_any _).mono ?_;rintro e w2 ⟨n,rfl,hn1,hn2,hst,hb1,hs1⟩)|(go_at_call 233;refine (l1HasS_any _ reserved _ _ hst (by decide)).mono ?_;rintro e w3 ⟨rfl,rfl⟩))
  go_ret
  exact ⟨ret_bool (by rw [HE.out,hw];simp),hb1⟩
theorem lbFind_any (v:Value) (L:List Df) (name:ByteArray) (w:World) (hv:DfsAt w v L) (hn:L.length≤1048576) :
  Calls Tryz.prog 105 #[v,.string name] w fun e w'=>e=.returned (.int .i64 (findFrom name L 0))∧Below w.heap.size w w':=by
 obtain ⟨a,cap,rfl,hc,hat⟩:=hv
 go_enter Tryz.func105,Tryz.ntmps105
 go_wp2
 go_loopw [9] (fun i wr=>∃ k:Nat,k≤L.length∧i=.int .i64 k∧Hid (findFrom name L 0=findFrom name (L.drop k) k)∧Below w.heap.size w wr) (fun i _=>L.length - (intOf i).toNat)
 case atStart=>exact ⟨0,by omega,rfl,(by simp [Hid]:Hid (findFrom name L 0=findFrom name (L.drop 0) 0)),Below.refl _ _⟩
 case round =>
  obtain ⟨k,hk,rfl,HF,hbel⟩:=hrel
  by_cases hlt:k<L.length
  ·obtain ⟨b,o,rfl,_,hnd⟩:=hat k hlt
   obtain ⟨c0,c1,c2,v,c3,hv⟩:=hnd.keep hbel
   obtain ⟨va,vc,rfl⟩:=hv.slice
   have hs:=hbel.size
   clear hat hnd hv
   by_cases he:L[k].name=name
   ·have g1:(L[k].name.toList == name.toList)=true:=by rw [str_beq];simp [he]
    have HK:Hid (findFrom name L 0=k):=(show findFrom name L 0=k by rw [HF.out,List.drop_eq_getElem_cons hlt,findFrom,if_pos he])
    clear he
    go_wp2
    go_ret
    exact ⟨ret_int HK.out.symm,hbel.alloc (by omega) _⟩
   ·have g1:(L[k].name.toList == name.toList)=false:=by rw [str_beq];simp [he]
    have HK:Hid (findFrom name L 0=findFrom name (L.drop (k+1)) (k+1)):=(show findFrom name L 0=_ by rw [HF.out,List.drop_eq_getElem_cons hlt,findFrom,if_neg he])
    clear he
    go_wp2
    go_roundw
    case rel=>exact ⟨k+1,by omega,by go_num,HK,hbel.alloc (by omega) _⟩
    case measure=>simp [intOf];omega
  ·go_wp2
   go_ret
   exact ⟨ret_int (by rw [HF.out,List.drop_eq_nil_of_le (by omega)];rfl),hbel⟩
end Go.Proofs.YtbljmfcifljkaaaGreatDoor
/-
  The types of leaves in a library: the map that typingIn makes, and its closure. Own work.
-/
namespace Go.Proofs.YtbljmfcifljkaaaGreatDoor
open Go.RowKit Go.Maps
def wd (a b:Int):DataW Unit:=.agg [.lit (.int .i64 a),.lit (.int .i64 b)]
def wiresR (v:Value):Option (DataW Unit × List MemPlace) :=
 match v with
 | .agg cs=>(match cs.toList with
  | [.int .i64 a,.int .i64 b]=>some (wd a b,[])
  | _=>none)
 | _=>none
theorem wiresR_mk (a b:Int):wiresR (.agg #[.int .i64 a,.int .i64 b])=some (wd a b,[]):=rfl
theorem wiresR_inv {v:Value} {z:DataW Unit} {ps:List MemPlace} (h:wiresR v=some (z,ps)):∃ a b,v=.agg #[.int .i64 a,.int .i64 b]∧z=wd a b:=by
 unfold wiresR at h
 split at h
 ·rename_i cs
  split at h
  ·rename_i a b hcs
   simp only [Option.some.injEq,Prod.mk.injEq] at h
   exact ⟨a,b,by rw [← hcs],h.1.symm⟩
  ·cases h
 ·cases h
def keyL (s:ByteArray):Lit:=.string s.data.toList
theorem keyL_ne {s t:ByteArray} (h:s ≠ t):keyL s ≠ keyL t:=fun e=>h (WideShapes.bytes_inj (by simpa [keyL] using e))
def mapOf (L:List Df):DataW Unit:=L.foldl (fun m d=>m.put (keyL d.name) (wd d.inn d.out)) (.map [])
theorem mapOf_snoc (L:List Df) (d:Df):mapOf (L ++ [d])=(mapOf L).put (keyL d.name) (wd d.inn d.out):=by simp [mapOf,List.foldl_append]
theorem isMap_mapOf (L:List Df):IsMap (mapOf L):=by
 have:∀ (L:List Df) (m:DataW Unit),IsMap m → IsMap (L.foldl (fun m d=>m.put (keyL d.name) (wd d.inn d.out)) m):=by
  intro L
  induction L with
  | nil=>intro m h;exact h
  | cons d r ih=>intro m h;exact ih _ (h.put _ _)
 exact this L _ isMap_empty
def lastD (L:List Df) (s:ByteArray):Option Df:=L.reverse.find? fun d=>decide (d.name=s)
theorem mapOf_look (L:List Df) (s:ByteArray):Maps.has (mapOf L) (keyL s)=(lastD L s).isSome∧∀ z,(mapOf L).atKey (keyL s) z=((lastD L s).map fun d=>wd d.inn d.out).getD z:=by
 have hk:∀ t:ByteArray,WideAt.IsKeyLit (keyL t):=fun _=>trivial
 have key:∀ R:List Df,Maps.has (mapOf R.reverse) (keyL s)=(R.find? fun d=>decide (d.name=s)).isSome∧∀ z,(mapOf R.reverse).atKey (keyL s) z=((R.find? fun d=>decide (d.name=s)).map fun d=>wd d.inn d.out).getD z:=by
  intro R
  induction R with
  | nil =>
   have:Maps.has (mapOf []) (keyL s)=false:=rfl
   exact ⟨this,fun z=>Maps.atKey_of_not_has this z⟩
  | cons d r ih =>
   rw [List.reverse_cons,mapOf_snoc]
   by_cases h:d.name=s
   ·subst h
    constructor
    ·rw [Maps.has_put_same (isMap_mapOf _) (hk _)];simp
    ·intro z;rw [Maps.atKey_put_same (isMap_mapOf _) (hk _)];simp
   ·have hne:keyL s ≠ keyL d.name:=keyL_ne (Ne.symm h)
    constructor
    ·rw [Maps.has_put_other hne,ih.1];simp [h]
    ·intro z;rw [Maps.atKey_put_other hne,ih.2];simp [h]
 have:=key L.reverse
 rwa [List.reverse_reverse] at this
def TypMap (w:World) (b:Nat) (L:List Df):Prop:=w.ownsMap Tryz.prog 9 wiresR b L.length (mapOf L)
def Typer (w:World) (bc:Nat) (L:List Df):Prop:=∃ bm,w.cell? ⟨bc,0,none⟩=some (.map (some bm))∧TypMap w bm L
theorem TypMap.keep {w w':World} (hb:Below w.heap.size w w') {b:Nat} {L:List Df} (h:TypMap w b L):TypMap w' b L:=by
 have hlt:=World.ownsMap.lt h
 obtain ⟨es,clock,h1,h2⟩:=h
 exact ⟨es,clock,(hb.block b hlt).trans h1,h2⟩
theorem Typer.keep {w w':World} (hb:Below w.heap.size w w') {b:Nat} {L:List Df} (h:Typer w b L):Typer w' b L:=by
 obtain ⟨bm,h1,h2⟩:=h
 exact ⟨bm,cell_keep hb h1,h2.keep hb⟩
def typRes (L:List Df) (n:Nd):W2 × Bool :=
 if n.kind=17 then (((lastD L n.name).map fun d=>(d.inn,d.out)).getD (0,0),(lastD L n.name).isSome && (n.value == 0)) else leafRes n
theorem law9:Keyed Tryz.prog 9:=string_keyed Tryz.underlying9
theorem zero147 (w:World):(zeroValue 169).run Tryz.prog w=.ok (.agg #[.int .i64 0,.int .i64 0]) w:=by kernel_rfl
theorem typ_look {w:World} {b:Nat} {L:List Df} (h:TypMap w b L) (s:ByteArray) (hs:s.size≤1048576) :
  (Instr.lookup 297 (.map (some b)) (.string s) true).run Tryz.prog w=.ok (.tuple #[.agg #[.int .i64 (((lastD L s).map fun d=>(d.inn,d.out)).getD (0,0)).1,.int .i64 (((lastD L s).map fun d=>(d.inn,d.out)).getD (0,0)).2],.bool (lastD L s).isSome]) w:=by
 obtain ⟨v,ps,h1,h2⟩:=World.ownsMap.look_ok h law9 Tryz.underlying297 (zero147 w) (wiresR_mk 0 0) (WideMaps.keyOf_string_mk Tryz.underlying9 (s:=s) (by unfold maxLen;omega))
 obtain ⟨l1,l2⟩:=mapOf_look L s
 obtain ⟨a,c,rfl,hz⟩:=wiresR_inv h2
 change (mapOf L).atKey (keyL s) (wd 0 0)=_ at hz
 rw [l2] at hz
 rw [h1]
 have e1:Maps.has (mapOf L) (Lit.string s.data.toList)=(lastD L s).isSome:=l1
 change Result.ok (Value.tuple #[_,.bool (Maps.has (mapOf L) (Lit.string s.data.toList))]) w=_
 rw [e1]
 cases hl:lastD L s with
 | none =>
  rw [hl] at hz
  simp [wd] at hz
  simp [← hz.1,← hz.2]
 | some d =>
  rw [hl] at hz
  simp [wd] at hz
  simp [hz.1,hz.2]
theorem typing1_any (n:Nd) (L:List Df) (bc:Nat) (w:World) (ht:Typer w bc L) (hs:n.name.size≤1048576) :
  Calls Tryz.prog 240 #[.agg #[.int .i64 n.kind,.int .i64 n.value,.string n.name],.pointer (some ⟨bc,0,none⟩)] w fun e w' =>
   e=.returned (.tuple #[.agg #[.int .i64 (typRes L n).1.1,.int .i64 (typRes L n).1.2],.bool (typRes L n).2])∧Below w.heap.size w w':=by
 by_cases hk:n.kind=17
 ·obtain ⟨bm,hc,hm⟩:=ht
  have hbc:=cell_lt hc
  have g1:(n.kind != 17)=false:=by simp [hk]
  have HR:=Lib.hid (show typRes L n=(((lastD L n.name).map fun d=>(d.inn,d.out)).getD (0,0),(lastD L n.name).isSome && (n.value == 0)) by simp [typRes,hk])
  have hlook:∀ o o',(Instr.lookup 297 (.map (some bm)) (.string n.name) true).run Tryz.prog ((w.alloc o).alloc o')=_:=fun o o'=>typ_look (hm.keep (((Below.refl _ _).alloc (Nat.le_refl _) _).alloc (by simp) _)) n.name hs
  generalize (((lastD L n.name).map fun d=>(d.inn,d.out)).getD (0,0))=z at HR hlook
  clear hk hm
  cases hsome:(lastD L n.name).isSome
  all_goals
   rw [hsome] at HR hlook
   clear hsome
   go_enter Tryz.func240,Tryz.ntmps240
   go_wp2
   go_region
   go_wp2
   refine bodyPost_ret (v:=.tuple #[.agg #[.int .i64 (typRes L n).1.1,.int .i64 (typRes L n).1.2],.bool (typRes L n).2]) (by simp [results,Tryz.results240,go_sem,HR.out]) rfl ⟨rfl,?_⟩
   repeat (first|exact Below.refl _ _|with_reducible refine Below.drew ?_|refine Below.alloc ?_ (by simp <;> omega) _)
 ·have g1:(n.kind != 17)=true:=by simp [hk]
  have HR:=Lib.hid (show typRes L n=leafRes n by simp [typRes,hk])
  clear hk ht
  go_enter Tryz.func240,Tryz.ntmps240
  go_wp2_with (go_at_call 184;refine (leafWires_any n _).mono ?_;rintro e w2 ⟨rfl,hb2⟩;obtain ⟨hc2,hf2,hs2⟩:=bcell hb2;simp only [World.size_alloc] at hs2 hb2)
  refine bodyPost_ret (v:=.tuple #[.agg #[.int .i64 (typRes L n).1.1,.int .i64 (typRes L n).1.2],.bool (typRes L n).2]) (by simp [results,Tryz.results240,go_sem,hc2,HR.out]) rfl ⟨rfl,?_⟩
  exact (((((Below.refl _ _).alloc (Nat.le_refl _) _).alloc (by simp) _).trans (hb2.mono (by omega))).setCell (by simp) _).setCell (by simp) _
def TIn (w wr:World) (L:List Df) (k:Nat):Prop :=
 wr.ownsMap Tryz.prog 9 wiresR w.heap.size k (mapOf (L.take k))∧wr.cell? ⟨w.heap.size+1,0,none⟩=some (.map (some w.heap.size))∧Below w.heap.size w wr∧w.heap.size+2≤wr.heap.size
theorem tin_start (w:World) (L:List Df):TIn w ((w.alloc (Obj.map #[] 0)).alloc (Obj.cells #[Value.map (some w.heap.size)] 297)) L 0:=by
 refine ⟨?_,by simp,((Below.refl _ _).alloc (Nat.le_refl _) _).alloc (by simp) _,by simp⟩
 rw [List.take_zero]
 exact (World.ownsMap_made w _ _ _).alloc _
theorem tin_step {w wr w1:World} {L:List Df} {k:Nat} (h:TIn w wr L k) (hk:k<L.length) {o:Obj} (hown:w1.ownsMap Tryz.prog 9 wiresR w.heap.size (k+1) ((mapOf (L.take k)).put (keyL L[k].name) (wd L[k].inn L[k].out)))
  (hg:(wr.alloc o).grownBy w1 (some w.heap.size)):TIn w w1 L (k+1):=by
 obtain ⟨h1,h2,h3,h4⟩:=h
 refine ⟨?_,?_,?_,?_⟩
 ·rw [List.take_succ_eq_append_getElem hk,mapOf_snoc];exact hown
 ·refine hg.cell ?_ (by simp)
  rw [World.cell?_alloc_lt _ _ ⟨w.heap.size+1,0,none⟩ (by simp;omega)]
  exact h2
 ·exact (h3.alloc (by omega) o).grown hg (by simp;omega) (by intro k hk;simp at hk;omega)
 ·have:=hg.size;simp at this;omega
theorem tin_end {w wr:World} {L:List Df} (h:TIn w wr L L.length):Typer wr (w.heap.size+1) L∧w.heap.size≤w.heap.size+1∧Below w.heap.size w wr:=by
 obtain ⟨h1,h2,h3,h4⟩:=h
 rw [List.take_length] at h1
 exact ⟨⟨_,h2,h1⟩,by omega,h3⟩
theorem typingIn_any (v:Value) (L:List Df) (w:World) (hv:DfsAt w v L) (hn:L.length≤1048576) (hs:∀ d ∈ L,d.name.size≤1048576) :
  Calls Tryz.prog 181 #[v] w fun e w'=>∃ bc:Nat,e=.returned (.func (.func 240) #[] #[.pointer (some ⟨bc,0,none⟩)])∧Typer w' bc L∧w.heap.size≤bc∧Below w.heap.size w w':=by
 obtain ⟨a,cap,rfl,hc,hat⟩:=hv
 have hmm:=@run_makeMap Tryz.prog
 go_enter Tryz.func181,Tryz.ntmps181
 go_wp2
 go_loopw [9] (fun i wr=>∃ k:Nat,k≤L.length∧i=.int .i64 k∧TIn w wr L k) (fun i _=>L.length - (intOf i).toNat)
 case atStart=>exact ⟨0,Nat.zero_le _,rfl,tin_start w L⟩
 case round =>
  obtain ⟨k,hk,rfl,htin⟩:=hrel
  by_cases hlt:k<L.length
  ·obtain ⟨b,o,rfl,_,hnd⟩:=hat k hlt
   have htin':=htin
   obtain ⟨hown,hcm,hbel,hsz⟩:=htin'
   obtain ⟨c0,c1,c2,v,c3,hv⟩:=hnd.keep hbel
   obtain ⟨va,vc,rfl⟩:=hv.slice
   have hnm:=hs L[k] (List.getElem_mem _)
   have hsz1:w.heap.size+1<wr.heap.size:=by omega
   clear hat hnd hs hv
   go_wp2_with (at_mapUpdate;go_must (refine wpList_mapUpdate_own _ rfl _ _ _ 297 rfl 9 169 law9 Tryz.underlying297 wiresR w.heap.size k _ rfl (hown.alloc _) (by unfold maxLen;omega) _ _ _ rfl rfl (WideMaps.keyOf_string_mk Tryz.underlying9 (s:=L[k].name) (by unfold maxLen;omega)) (wd L[k].inn L[k].out) [] (wiresR_mk _ _) ?_);intro w1 hown1 hgrow1)
   have htin3:=tin_step htin hlt (o:=.cells #[.string L[k].name,.int .i64 L[k].inn,.int .i64 L[k].out,.slice va L[k].body.length vc] 151) hown1 hgrow1
   clear hown1 hgrow1 hown hcm hbel htin
   go_wp2
   go_roundw
   case rel=>exact ⟨k+1,by omega,by go_num,htin3⟩
   case measure=>simp [intOf];omega
  ·go_wp2
   go_ret
   have hkk:k=L.length:=by omega
   subst hkk
   exact ⟨_,rfl,tin_end htin⟩
end Go.Proofs.YtbljmfcifljkaaaGreatDoor
/-
  Walks: joinWires, tmLeaf, tmArity. Own work.
-/
namespace Go.Proofs.YtbljmfcifljkaaaGreatDoor
open Go.RowKit
def joinRes (k:Int) (a b:W2):W2 × Bool :=
 if k=15 then ((a.1,b.2),a.2 == b.1) else ((a.1+b.1,a.2+b.2),decide (a.1+b.1≤12) && decide (a.2+b.2≤12))
theorem joinRes_ok (k:Int) (a b:W2):(if (joinRes k a b).2 then some (joinRes k a b).1 else none)=joinW k a b:=by
 unfold joinRes joinW
 split
 ·simp
 ·simp
def Sm (a:W2):Prop:=0≤a.1∧a.1≤12∧0≤a.2∧a.2≤12
theorem joinWires_any (k:Int) (a b:W2) (w:World) (ha:Sm a) (hb:Sm b) :
  Calls Tryz.prog 182 #[.int .i64 k,.agg #[.int .i64 a.1,.int .i64 a.2],.agg #[.int .i64 b.1,.int .i64 b.2]] w fun e w' =>
   e=.returned (.tuple #[.agg #[.int .i64 (joinRes k a b).1.1,.int .i64 (joinRes k a b).1.2],.bool (joinRes k a b).2])∧Below w.heap.size w w':=by
 obtain ⟨a1,a2⟩:=a
 obtain ⟨b1,b2⟩:=b
 obtain ⟨p1,p2,p3,p4⟩:=ha
 obtain ⟨q1,q2,q3,q4⟩:=hb
 simp only at p1 p2 p3 p4 q1 q2 q3 q4
 by_cases hk:k=15
 ·have g1:(k == 15)=true:=by simp [hk]
  have HR:=Lib.hid (show joinRes k (a1,a2) (b1,b2)=((a1,b2),a2 == b1) by simp [joinRes,hk])
  clear hk
  go_enter Tryz.func182,Tryz.ntmps182
  go_wp2_with fail
  go_region
  go_wp2
  refine bodyPost_ret (v:=.tuple #[.agg #[.int .i64 (joinRes k (a1,a2) (b1,b2)).1.1,.int .i64 (joinRes k (a1,a2) (b1,b2)).1.2],.bool (joinRes k (a1,a2) (b1,b2)).2]) (by simp [results,Tryz.results182,go_sem,HR.out]) rfl ⟨rfl,?_⟩
  repeat (first|exact Below.refl _ _|with_reducible refine Below.drew ?_|refine Below.alloc ?_ (by simp <;> omega) _)
 ·have g1:(k == 15)=false:=by simp [hk]
  have HR:=Lib.hid (show joinRes k (a1,a2) (b1,b2)=((a1+b1,a2+b2),decide (a1+b1≤12) && decide (a2+b2≤12)) by simp [joinRes,hk])
  clear hk
  go_enter Tryz.func182,Tryz.ntmps182
  go_wp2_with fail
  refine region_grow (C:=Grew ((((w.alloc _).alloc _).alloc _).alloc _).drew) 3 (by kernel_rfl) (by kernel_rfl) (by kernel_rfl) (Grew.refl _) ?_
  simp only [List.take_succ_cons,List.take_zero,List.drop_succ_cons,List.drop_zero]
  iterate 2
   refine g_step (fun K hK=>?_)
   refine g_still rfl ?_
   apply Exists.intro
   refine ⟨fun w' hw'=>?_,?_⟩
   ·obtain ⟨hc',hf',_⟩:=bcell hw'
    go_simp
    rfl
   go_simp
   refine hK _ _ ?_
   clear hK K
  refine g_step (fun K hK=>?_);refine g_call rfl rfl 241 ?_;apply Exists.intro;refine ⟨fun w' hw'=>?_,?_⟩;(focus go_simp;rfl);refine (fit_any _ _ _).mono ?_;rintro e w3 ⟨rfl,hb3⟩;refine ⟨_,rfl,hb3,?_⟩;go_simp;apply hK;clear hK K
  refine g_nil ?_
  obtain ⟨hc3,hf3,hs3⟩:=bcell hb3
  simp only [World.size_alloc,World.size_drew] at hs3 hb3
  go_wp2
  refine bodyPost_ret (v:=.tuple #[.agg #[.int .i64 (joinRes k (a1,a2) (b1,b2)).1.1,.int .i64 (joinRes k (a1,a2) (b1,b2)).1.2],.bool (joinRes k (a1,a2) (b1,b2)).2]) (by simp [results,Tryz.results182,go_sem,HR.out,hc3]) rfl ⟨rfl,?_⟩
  refine (Below.setCell (Below.setCell ?_ (by simp;omega) _) (by simp;omega) _)
  refine Below.trans ?_ (Below.mono hb3 (by omega))
  repeat (first|exact Below.refl _ _|with_reducible refine Below.drew ?_|refine Below.alloc ?_ (by simp <;> omega) _)
theorem tmArity_any (n:Nd) (w:World) :
  Calls Tryz.prog 107 #[.agg #[.int .i64 n.kind,.int .i64 n.value,.string n.name]] w fun e w'=>e=.returned (.tuple #[.int .i64 (arityW n).1,.int .i64 (arityW n).2])∧Below w.heap.size w w':=by
 by_cases hk:n.kind=1
 ·have g1:(n.kind == 1)=true:=by simp [hk]
  have HR:=Lib.hid (show arityW n=(n.value,n.value) by simp [arityW,hk])
  clear hk
  go_enter Tryz.func107,Tryz.ntmps107
  go_wp2_with fail
  go_region
  go_wp2
  go_ret2
  exact ⟨by rw [HR.out];rfl,((Below.refl _ _).alloc (Nat.le_refl _) _).drew⟩
 ·have g1:(n.kind == 1)=false:=by simp [hk]
  have HR:=Lib.hid (show arityW n=kindW n.kind by simp [arityW,hk])
  clear hk
  go_enter Tryz.func107,Tryz.ntmps107
  go_wp2_with (go_at_call 169;refine (tmKind_any _ _).mono ?_;rintro e w2 ⟨rfl,rfl⟩)
  go_ret2
  exact ⟨by rw [HR.out];rfl,(Below.refl _ _).alloc (Nat.le_refl _) _⟩
theorem tmLeaf_any (n:Nd) (w:World) :
  Calls Tryz.prog 106 #[.agg #[.int .i64 n.kind,.int .i64 n.value,.string n.name]] w fun e w'=>e=.returned (.bool (leafB n))∧Below w.heap.size w w':=by
 by_cases he:n.name=ByteArray.empty
 ·have h0:n.name.toList=[]:=(toList_nil_iff_emptyBytes _).2 he
  have g0:(!n.name.toList.isEmpty)=false:=by simp [h0]
  by_cases hin:1≤n.kind∧n.kind≤14
  ·have gi:inB n.kind 1 14=true:=by simp [inB];omega
   have a1:decide (1≤n.kind)=true:=by simp;omega
   have a2:decide (n.kind≤14)=true:=by simp;omega
   by_cases h1:n.kind=1
   ·have g1:(n.kind == 1)=true:=by simp [h1]
    have HR:=Lib.hid (show leafB n=inB n.value 0 12 by simp [leafB,he,h1,inB])
    clear h1 he h0 a1 a2
    go_enter Tryz.func106,Tryz.ntmps106
    go_wp2_with (go_at_call 80;refine (l1In_any _ _ _ _).mono ?_;rintro e w2 ⟨rfl,rfl⟩)
    go_ret
    exact ⟨ret_bool HR.out.symm,(Below.refl _ _).alloc (Nat.le_refl _) _⟩
   have g1:(n.kind == 1)=false:=by simp [h1]
   by_cases h7:n.kind=7
   ·have g7:(n.kind == 7)=true:=by simp [h7]
    have HR:=Lib.hid (show leafB n=inB n.value 0 96 by simp [leafB,he,h7,inB])
    clear h1 he h0 a1 a2 h7
    go_enter Tryz.func106,Tryz.ntmps106
    go_wp2_with (go_at_call 80;refine (l1In_any _ _ _ _).mono ?_;rintro e w2 ⟨rfl,rfl⟩)
    go_ret
    exact ⟨ret_bool HR.out.symm,(Below.refl _ _).alloc (Nat.le_refl _) _⟩
   have g7:(n.kind == 7)=false:=by simp [h7]
   by_cases h13:n.kind=13
   ·have g13:(n.kind == 13)=true:=by simp [h13]
    have HR:=Lib.hid (show leafB n=inB n.value 0 96 by simp [leafB,he,h13,inB])
    clear h1 he h0 a1 a2 h7 h13
    go_enter Tryz.func106,Tryz.ntmps106
    go_wp2_with (go_at_call 80;refine (l1In_any _ _ _ _).mono ?_;rintro e w2 ⟨rfl,rfl⟩)
    go_ret
    exact ⟨ret_bool HR.out.symm,(Below.refl _ _).alloc (Nat.le_refl _) _⟩
   have g13:(n.kind == 13)=false:=by simp [h13]
   have HR:=Lib.hid (show leafB n=(n.value == 0) by unfold leafB;rw [a1,a2,if_neg h1,if_neg (by omega)];simp [he];rfl)
   clear h1 he h0 a1 a2 h7 h13
   go_enter Tryz.func106,Tryz.ntmps106
   go_wp2_with (go_at_call 80;refine (l1In_any _ _ _ _).mono ?_;rintro e w2 ⟨rfl,rfl⟩)
   go_ret
   exact ⟨ret_bool HR.out.symm,(Below.refl _ _).alloc (Nat.le_refl _) _⟩
  ·have gi:inB n.kind 1 14=false:=by simp [inB];omega
   have HR:=Lib.hid (show leafB n=false by
    unfold leafB
    have a1:(decide (1≤n.kind) && decide (n.kind≤14))=false:=by simp;omega
    simp only [Bool.and_assoc]
    rw [← Bool.and_assoc (decide (1≤n.kind)),a1]
    simp)
   clear he h0
   go_enter Tryz.func106,Tryz.ntmps106
   go_wp2_with (go_at_call 80;refine (l1In_any _ _ _ _).mono ?_;rintro e w2 ⟨rfl,rfl⟩)
   go_ret
   exact ⟨ret_bool HR.out.symm,(Below.refl _ _).alloc (Nat.le_refl _) _⟩
 ·have g0:(!n.name.toList.isEmpty)=true:=by simpa using fun h=>he ((toList_nil_iff_emptyBytes _).1 h)
  have HR:=Lib.hid (show leafB n=false by simp [leafB,he])
  clear he
  go_enter Tryz.func106,Tryz.ntmps106
  go_wp2
  go_ret
  exact ⟨ret_bool HR.out.symm,(Below.refl _ _).alloc (Nat.le_refl _) _⟩
end Go.Proofs.YtbljmfcifljkaaaGreatDoor
/-
  The walk of typed: the type of nodes, by a stack of types. Own work.
-/
namespace Go.Proofs.YtbljmfcifljkaaaGreatDoor
open Go.RowKit
def wCells (x:W2):List Value:=[.int .i64 x.1,.int .i64 x.2]
theorem wCells_len (x:W2):(wCells x).length=2:=rfl
def leafT (L:List Df) (n:Nd):Option W2:=if (typRes L n).2 then some (typRes L n).1 else none
theorem info147:(Tryz.prog.info? 169).map (fun i=>(i.zero,i.size,i.bytes))=some (some (.agg #[.int .i64 0,.int .i64 0]),2,16):=by kernel_rfl
theorem owns_take {w:World} {B e sz g n cap:Nat} {xs:List Value} (h:w.ownsRow B e sz (.slice (some ⟨g,0,none⟩) n cap) n xs) (m:Nat) (hm:m≤n) :
  w.ownsRow B e sz (.slice (some ⟨g,0,none⟩) m cap) m (xs.take (m * sz)):=by
 have hms:m * sz≤n * sz:=Nat.mul_le_mul_right _ hm
 obtain ⟨h1,h2⟩:=h
 refine ⟨by rw [List.length_take,h1];omega,?_⟩
 rcases h2 with ⟨h,_⟩|⟨g',cap',cur,h,hb,hg,hc,hm',hs,ht⟩
 ·simp at h
 ·simp only [Value.slice.injEq,Option.some.injEq,Addr.mk.injEq,and_true,true_and] at h
  obtain ⟨rfl,rfl⟩:=h
  refine .inr ⟨g,cap,cur,rfl,hb,hg,by omega,hm',hs,?_⟩
  rw [← ht,List.take_take,Nat.min_eq_left hms]
def Stk (wr:World) (B:Nat) (v:Value) (st:List W2):Prop:=wr.ownsRow B 169 2 v st.length (st.flatMap wCells)∧∀ x ∈ st,Sm x
def TypedPost (L:List Df) (ns:List Nd) (w:World) (e:Ending) (w':World):Prop :=
 ∃ x:W2,e=.returned (.tuple #[.agg #[.int .i64 x.1,.int .i64 x.2],.bool (typedL (leafT L) ns).isSome])∧(∀ t,typedL (leafT L) ns=some t → x=t)∧Below w.heap.size w w'
def resW (w:World):World:=w.alloc (.cells #[.int .i64 0,.int .i64 0] 169)
def TypSt (L:List Df) (ns:List Nd) (w wr:World) (v:Value) (k:Nat) (st:List W2):Prop :=
 Stk wr (w.heap.size+1) v st∧Hid (typedGo (leafT L) ns []=typedGo (leafT L) (ns.drop k) st.reverse)∧Below (w.heap.size+1) (resW w) wr∧st.length≤k∧(k=0∨st ≠ [])
theorem TypSt.facts {L:List Df} {ns:List Nd} {w wr:World} {v:Value} {k:Nat} {st:List W2} (h:TypSt L ns w wr v k st) :
  wr.cell? ⟨w.heap.size,0,none⟩=some (.int .i64 0)∧wr.cell? ⟨w.heap.size,1,none⟩=some (.int .i64 0)∧wr.frozen? ⟨w.heap.size,0,none⟩=false∧wr.frozen? ⟨w.heap.size,1,none⟩=false∧w.heap.size<wr.heap.size∧Below w.heap.size w wr:=by
 obtain ⟨_,_,hb,_⟩:=h
 have hsz:=hb.size
 have h0:(resW w).heap.size=w.heap.size+1:=by simp [resW]
 refine ⟨?_,?_,?_,?_,by omega,((Below.refl _ _).alloc (Nat.le_refl _) _).trans (hb.mono (by omega))⟩
 ·rw [hb.cell (p:=⟨w.heap.size,0,none⟩) (by simp)];simp [resW]
 ·rw [hb.cell (p:=⟨w.heap.size,1,none⟩) (by simp)];simp [resW]
 ·rw [hb.frozen (p:=⟨w.heap.size,0,none⟩) (by simp)];simp [resW]
 ·rw [hb.frozen (p:=⟨w.heap.size,1,none⟩) (by simp)];simp [resW]
theorem leafT_sm {L:List Df} (hsm:∀ d ∈ L,Sm (d.inn,d.out)) {n:Nd} {x:W2} (h:leafT L n=some x):Sm x:=by
 unfold leafT at h
 split at h
 ·rename_i hok
  obtain rfl:=Option.some.inj h
  unfold typRes at hok ⊢
  split at hok
  ·rename_i hk
   rw [if_pos hk]
   simp only [Bool.and_eq_true] at hok
   obtain ⟨d,hd⟩:=Option.isSome_iff_exists.1 hok.1
   rw [hd]
   have hm:d ∈ L:=by have:=List.mem_of_find?_eq_some hd;simpa using this
   exact hsm d hm
  ·rename_i hk
   rw [if_neg hk]
   unfold leafRes at hok ⊢
   split
   ·simp_all
   ·rename_i h1
    rw [if_neg h1] at hok
    split
    ·rename_i h2
     rw [if_pos h2] at hok
     simp [inB] at hok
     exact ⟨hok.1,hok.2,hok.1,hok.2⟩
    ·rename_i h2
     rw [if_neg h2] at hok
     split
     ·exact ⟨by simp,by simp,by simp,by simp⟩
     ·rename_i h3
      split
      ·simp only [kindW]
       repeat' split
       all_goals exact ⟨by simp,by simp,by simp,by simp⟩
      ·exact ⟨by simp,by simp,by simp,by simp⟩
 ·cases h
theorem joinW_sm {k:Int} {a b x:W2} (ha:Sm a) (hb:Sm b) (h:joinW k a b=some x):Sm x:=by
 obtain ⟨p1,p2,p3,p4⟩:=ha
 obtain ⟨q1,q2,q3,q4⟩:=hb
 unfold joinW at h
 split at h
 ·split at h
  ·obtain rfl:=Option.some.inj h;exact ⟨p1,p2,q3,q4⟩
  ·cases h
 ·split at h
  ·rename_i hh
   obtain rfl:=Option.some.inj h
   exact ⟨by simp;omega,hh.1,by simp;omega,hh.2⟩
  ·cases h
theorem owns_shape {w:World} {B e sz:Nat} {v:Value} {n:Nat} {xs:List Value} (h:w.ownsRow B e sz v n xs):∃ ao cp,v=.slice ao n cp:=by
 rcases h.2 with ⟨rfl,rfl⟩|⟨g,cap,cur,rfl,_⟩
 ·exact ⟨_,_,rfl⟩
 ·exact ⟨_,_,rfl⟩
theorem owns_some {w:World} {B e sz:Nat} {v:Value} {n:Nat} {xs:List Value} (h:w.ownsRow B e sz v n xs) (hn:0<n):∃ g cp,v=.slice (some ⟨g,0,none⟩) n cp∧n≤cp∧cp≤maxLen∧B≤g∧g<w.heap.size:=by
 have h':=h
 rcases h.2 with ⟨rfl,rfl⟩|⟨g,cap,cur,rfl,hb,hg,hc,hm,_⟩
 ·omega
 ·exact ⟨g,cap,rfl,hc,hm,hb,(World.ownsRow.lt h' g rfl).2⟩
theorem last_two {α:Type} (st:List α) (h:¬ st.length<2):∃ (s:List α) (a b:α),st=s ++ [a,b]:=by
 match hr:st.reverse,h with
 | [],h=>have:=congrArg List.length hr;simp at this;subst this;simp at h
 | [x],h=>have:=congrArg List.length hr;simp at this;omega
 | b :: a :: r,h =>
  refine ⟨r.reverse,a,b,?_⟩
  have:=congrArg List.reverse hr
  simpa using this
theorem typ_push {L:List Df} {ns:List Nd} {w wr w2 w3:World} {v v':Value} {k:Nat} {st:List W2} {x:W2} {o o2 o3:Obj} (h:TypSt L ns w wr v k st)
  (hgo:Hid (typedGo (leafT L) ns []=typedGo (leafT L) (ns.drop (k+1)) (x :: st.reverse))) (hx:Sm x) (hb2:Below (wr.alloc o).heap.size (wr.alloc o) w2)
  (hown:w3.ownsRow (w.heap.size+1) 169 2 v' (st.length+1) (st.flatMap wCells ++ [.int .i64 x.1,.int .i64 x.2])) (hg:((w2.alloc o2).alloc o3).grownBy w3 v.ownBlock):TypSt L ns w w3 v' (k+1) (st ++ [x]):=by
 have hf:=h.facts
 obtain ⟨⟨h1,h2⟩,h3,h4,h5,h6⟩:=h
 have hz:=hb2.size
 have hz4:=h4.size
 simp only [World.size_alloc,resW] at hz hz4
 refine ⟨⟨?_,?_⟩,?_,?_,by simp;omega,.inr (by simp)⟩
 ·rw [List.length_append,List.flatMap_append];exact hown
 ·intro y hy;rcases List.mem_append.1 hy with hy|hy
  ·exact h2 y hy
  ·simp at hy;subst hy;exact hx
 ·rw [List.reverse_append];exact hgo
 ·have hb:Below (w.heap.size+1) (resW w) ((w2.alloc o2).alloc o3) :=
   (((h4.alloc (by omega) o).trans (hb2.mono (by simp;omega))).alloc (by omega) _).alloc (by simp;omega) _
  exact hb.grown hg (by simp;omega) (fun j hj=>(World.ownsRow.lt h1 j hj).1)
theorem typ_join {L:List Df} {ns:List Nd} {w wr w2:World} {v v':Value} {k:Nat} {st0:List W2} {p q x:W2} (h:TypSt L ns w wr v k (st0 ++ [p,q]))
  (hgo:Hid (typedGo (leafT L) ns []=typedGo (leafT L) (ns.drop (k+1)) (x :: st0.reverse))) (hx:Sm x) (hb:Below (w.heap.size+1) wr w2)
  (hown:w2.ownsRow (w.heap.size+1) 169 2 v' (st0.length+1) (st0.flatMap wCells ++ [.int .i64 x.1,.int .i64 x.2])):TypSt L ns w w2 v' (k+1) (st0 ++ [x]):=by
 obtain ⟨⟨h1,h2⟩,h3,h4,h5,h6⟩:=h
 simp at h5
 refine ⟨⟨?_,?_⟩,?_,h4.trans hb,by simp;omega,.inr (by simp)⟩
 ·rw [List.length_append,List.flatMap_append];exact hown
 ·intro y hy;rcases List.mem_append.1 hy with hy|hy
  ·exact h2 y (List.mem_append.2 (.inl hy))
  ·simp at hy;subst hy;exact hx
 ·rw [List.reverse_append];exact hgo
end Go.Proofs.YtbljmfcifljkaaaGreatDoor
