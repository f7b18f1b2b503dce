/-
  Walks: a text among texts, words, names, finding a definition. Own work.
-/
import Derived.Test.YtikgblkfmpecfaaGreatDoorWC
import Derived.Test.YtikgblkfmpecfaaGreatDoorWD
import Derived.Maps.Own
import Derived.Maps.OwnOps
import Derived.Maps.OwnSet
import Derived.Test.YtikgblkfmpecfaaGreatDoorWB
set_option linter.all false
set_option maxRecDepth 100000
set_option maxHeartbeats 8000000
namespace Go.Proofs.YtikgblkfmpecfaaGreatDoor
open Go.RowKit
def kQ (s:ByteArray):List ByteArray->Bool
 | []=>false
 | x::r=>decide (x=s) || kQ s r
theorem acr (v:Value) (ss:List ByteArray) (s:ByteArray) (w:World) (hv:w_ w v ss) (hn:ss.length<=1048576) :
  Calls Tryz.prog 162 #[v,.string s] w λe w'=>e=.returned (.bool (kQ s ss))/\w=w':=by
 obtain⟨a,cap,rfl,hc,hat⟩:=hv;go_enter Tryz.func162,Tryz.ntmps162;go_wp2;go_loop [9] (λi=>∃k:Nat,k<=ss.length/\i=.int .i64 k/\Hid (kQ s ss=kQ s (ss.drop k))) (λi=>ss.length-(intOf i).toNat)
 case atStart=>exact⟨0,by omega,rfl,(show Hid _ from(by simp[Hid]:Hid (kQ s ss=kQ s (ss.drop 0))))⟩
 case round =>
  obtain⟨k,hk,rfl,HF⟩:=hrel
  by_cases hlt:k<ss.length
  ·obtain⟨b,o,rfl,_,c0⟩:=hat k hlt
   simp only[Nat.mul_one]at c0
   clear hat
   by_cases he:ss[k]=s
   ·have g1:(ss[k].toList==s.toList)=true:=by rw[k_];simp[he]
    have HK:Hid (kQ s ss=true):=by
     show kQ s ss=true;rw[HF.out,List.drop_eq_getElem_cons hlt,kQ];simp[he]
    clear he
    go_wp2
    go_ret
    exact⟨dI HK.out.symm,rfl⟩
   ·have g1:(ss[k].toList==s.toList)=false:=by rw[k_];simp[he]
    have HK:Hid (kQ s ss=kQ s (ss.drop (k+1))):=by
     show kQ s ss=_;rw[HF.out,List.drop_eq_getElem_cons hlt,kQ];simp[he]
    clear he
    go_wp2
    go_round
    case rel=>exact⟨k+1,by omega,by go_num,HK⟩
    case measure=>simp[intOf];omega
  ·go_wp2
   go_ret
   exact⟨dI (by rw[HF.out,List.drop_eq_nil_of_le (by omega)];rfl),rfl⟩
theorem Wi (s:ByteArray) (w:World) (hs:s.size<=1048576) :
  Calls Tryz.prog 161 #[.string s] w λe w'=>e=.returned (.bool (jq s))/\w=w':=by
 by_cases hsz:1<=s.size/\s.size<=8
 ·have h0:0<s.size:=by omega
  have g1:inB s.size 1 8=true:=by simp[inB];omega
  cases hl:dL s[0]with
  | false =>
   have hl':(s[0].toNat:Int)<97\/122<(s[0].toNat:Int):=by simp[dL]at hl;omega
   have HF:=Lib.hid (NW hsz hl)
   clear hl
   rcases hl' with hl'|hl'
   all_goals
    go_enter Tryz.func161,Tryz.ntmps161
    go_wp2_with (go_at_call 143;refine(qI _ _ _ _).mono ?_;rintro e w1⟨rfl,rfl⟩)
    go_ret
    exact⟨dI HF.out.symm,rfl⟩
  | true =>
   have hl':(97:Int)<=(s[0].toNat:Int)/\(s[0].toNat:Int)<=122:=by simp[dL]at hl;omega
   have Fe:=Lib.hid (U1 hsz hl)
   clear hl
   obtain⟨hl1,hl2⟩:=hl'
   go_enter Tryz.func161,Tryz.ntmps161
   go_wp2_with (go_at_call 143;refine(qI _ _ _ _).mono ?_;rintro e w1⟨rfl,rfl⟩)
   go_loop [3] (λi=>∃k:Nat,1<=k/\k<=s.size/\i=.int .i64 k/\Hid (jq s=oM s k)) (λi=>s.size-(intOf i).toNat)
   case atStart=>exact⟨1,by omega,by omega,rfl,Fe⟩
   case round =>
    obtain⟨k,hk1,hk,rfl,HF⟩:=hrel
    clear Fe
    by_cases hlt:k<s.size
    ·have hst:=NV s k hlt
     rcases(show(s[k].toNat:Int)<48\/((48:Int)<=s[k].toNat/\(s[k].toNat:Int)<=57)\/((57:Int)<s[k].toNat/\(s[k].toNat:Int)<97)\/((97:Int)<=s[k].toNat/\(s[k].toNat:Int)<=122)\/(122:Int)<s[k].toNat from by omega)with q|q|q|q|q
     ·have HK:Hid (jq s=false):=(show jq s=false by rw[HF.out,hst];simp[bV,dL,aP];intro h;omega)
      clear hst HF
      go_wp2
      go_ret
      exact⟨dI HK.out.symm,rfl⟩
     ·have HK:Hid (jq s=oM s (k+1)):=(show jq s=_ by rw[HF.out,hst];have:bV s[k]=true:=(by simp[bV,dL,aP];omega);rw[this];rfl)
      clear hst HF
      obtain⟨q1,q2⟩:=q
      go_wp2
      go_round
      case rel=>exact⟨k+1,by omega,by omega,by go_num,HK⟩
      case measure=>simp[intOf];omega
     ·have HK:Hid (jq s=false):=(show jq s=false by rw[HF.out,hst];simp[bV,dL,aP];intro h;omega)
      clear hst HF
      obtain⟨q1,q2⟩:=q
      go_wp2
      go_ret
      exact⟨dI HK.out.symm,rfl⟩
     ·have HK:Hid (jq s=oM s (k+1)):=(show jq s=_ by rw[HF.out,hst];have:bV s[k]=true:=(by simp[bV,dL,aP];omega);rw[this];rfl)
      clear hst HF
      obtain⟨q1,q2⟩:=q
      go_wp2
      go_round
      case rel=>exact⟨k+1,by omega,by omega,by go_num,HK⟩
      case measure=>simp[intOf];omega
     ·have HK:Hid (jq s=false):=(show jq s=false by rw[HF.out,hst];simp[bV,dL,aP];intro h;omega)
      clear hst HF
      go_wp2
      go_ret
      exact⟨dI HK.out.symm,rfl⟩
    ·go_wp2
     go_ret
     exact⟨dI (by rw[HF.out,U0 s k (by omega)]),rfl⟩
 ·have g1:inB s.size 1 8=false:=by simp[inB];omega
  go_enter Tryz.func161,Tryz.ntmps161;go_wp2_with (go_at_call 143;refine(qI _ _ _ _).mono ?_;rintro e w1⟨rfl,rfl⟩)
  go_ret
  exact⟨dI (by simp[I9 hsz]),rfl⟩
theorem acs (s:ByteArray) (l:List ByteArray):∀k:Nat,(kQ s l=true->(k:Int)<=kV s 17 l k/\kV s 17 l k<k+l.length)/\(kQ s l=false->kV s 17 l k=17):=by
 induction l with
 | nil=>intro k;simp[kQ,kV]
 | cons x r ih =>
  intro k
  obtain⟨h1,h2⟩:=ih (k+1)
  constructor
  ·intro h
   unfold kV
   split
   ·simp;omega
   ·rename_i hne
    have:kQ s r=true:=by simpa[kQ,hne]using h
    have:=h1 this
    simp;omega
  ·intro h
   simp only[kQ,Bool.or_eq_false_iff,decide_eq_false_iff_not]at h
   unfold kV
   rw[if_neg h.1]
   exact h2 h.2
theorem acu (s:ByteArray):nameB s=(jq s&&!kQ s reserved):=by
 unfold nameB;cases hw:jq s with
 | false=>rfl
 | true =>
  have hne:¬(⟨#[]⟩:ByteArray)=s:=by
   intro h;rw[I9 (by rw[<-h];decide)]at hw;cases hw
  have h0:bg s=kV s 17 reserved 1:=by unfold bg kN kV;rw[if_neg hne];rfl
  have:=acs s reserved 1
  have hl:reserved.length=14:=rfl
  rw[h0]
  cases hh:kQ s reserved with
  | false=>simp[this.2 hh]
  | true =>
   have:=this.1 hh
   simp
   omega
theorem yZ (s:ByteArray) (w:World) (hs:s.size<=1048576) :
  Calls Tryz.prog 95 #[.string s] w λe w'=>e=.returned (.bool (nameB s))/\Below w.heap.size w w':=by
 have HE:=Lib.hid (acu s);cases hw:jq s with
 | false =>
  go_enter Tryz.func95,Tryz.ntmps95
  go_wp2_with (go_at_call 161;refine(Wi _ _ hs).mono ?_;rintro e w1⟨rfl,rfl⟩)
  go_ret
  exact⟨dI (by rw[HE.out,hw];rfl),Below.refl _ _⟩
 | true =>
  go_enter Tryz.func95,Tryz.ntmps95
  go_wp2_with (first|(go_at_call 161;refine(Wi _ _ hs).mono ?_;rintro e w1⟨rfl,rfl⟩)|(go_at_call 145;refine(Fb _).mono ?_;rintro e w2⟨n,rfl,hn1,hn2,hst,hb1,hs1⟩)|(go_at_call 162;refine(acr _ reserved _ _ hst (by decide)).mono ?_;rintro e w3⟨rfl,rfl⟩))
  go_ret
  exact⟨dI (by rw[HE.out,hw];simp),hb1⟩
theorem nN (v:Value) (L:List Df) (name:ByteArray) (w:World) (hv:aG w v L) (hn:L.length<=1048576) :
  Calls Tryz.prog 96 #[v,.string name] w λe w'=>e=.returned (.int .i64 (eY name L 0))/\Below w.heap.size w w':=by
 obtain⟨a,cap,rfl,hc,hat⟩:=hv;go_enter Tryz.func96,Tryz.ntmps96;go_wp2;go_loopw [9] (λi wr=>∃k:Nat,k<=L.length/\i=.int .i64 k/\Hid (eY name L 0=eY name (L.drop k) k)/\Below w.heap.size w wr) (λi _=>L.length-(intOf i).toNat)
 case atStart=>exact⟨0,by omega,rfl,(by simp[Hid]:Hid (eY name L 0=eY name (L.drop 0) 0)),Below.refl _ _⟩
 case round =>
  obtain⟨k,hk,rfl,HF,hbel⟩:=hrel
  by_cases hlt:k<L.length
  ·obtain⟨b,o,rfl,_,hnd⟩:=hat k hlt
   obtain⟨c0,c1,c2,v,c3,hv⟩:=hnd.keep hbel
   obtain⟨va,vc,rfl⟩:=hv.slice
   have hs:=hbel.size
   clear hat hnd hv
   by_cases he:L[k].name=name
   ·have g1:(L[k].name.toList==name.toList)=true:=by rw[k_];simp[he]
    have HK:Hid (eY name L 0=k):=(show eY name L 0=k by rw[HF.out,List.drop_eq_getElem_cons hlt,eY,if_pos he])
    clear he
    go_wp2
    go_ret
    exact⟨wO HK.out.symm,hbel.alloc (by omega) _⟩
   ·have g1:(L[k].name.toList==name.toList)=false:=by rw[k_];simp[he]
    have HK:Hid (eY name L 0=eY name (L.drop (k+1)) (k+1)):=(show eY name L 0=_ by rw[HF.out,List.drop_eq_getElem_cons hlt,eY,if_neg he])
    clear he
    go_wp2
    go_roundw
    case rel=>exact⟨k+1,by omega,by go_num,HK,hbel.alloc (by omega) _⟩
    case measure=>simp[intOf];omega
  ·go_wp2
   go_ret
   exact⟨wO (by rw[HF.out,List.drop_eq_nil_of_le (by omega)];rfl),hbel⟩
theorem Wj (v:Value) (d:Df) (name:ByteArray) (b o:Nat) (w:World) (hv:aZ w v d.body) (hc:w.cell? ⟨b,o,none⟩=some (.string name)) :
  Calls Tryz.prog 150 #[.agg #[.string d.name,.int .i64 d.inn,.int .i64 d.out,v],.pointer (some ⟨b,o,none⟩)] w λe w'=>e=.returned (.bool (decide (d.name=name)))/\Below w.heap.size w w':=by
 obtain⟨a,cap,rfl⟩:=hv.slice;have hb:=cell_lt hc;have hc':∀ob,(w.alloc ob).cell? ⟨b,o,none⟩=some (.string name):=λob=>ak ((Below.refl _ _).alloc (Nat.le_refl _) _) hc;go_enter Tryz.func150,Tryz.ntmps150;go_wp2;go_ret
 exact⟨dI (k_ _ _),(Below.refl _ _).alloc (Nat.le_refl _) _⟩
theorem acv (v:Value) (L:List Df) (name:ByteArray) (b o:Nat) (w:World) (hv:aG w v L) (hn:L.length<=1048576) (hc0:w.cell? ⟨b,o,none⟩=some (.string name)) :
  Calls Tryz.prog 149 #[v,.func (.func 150) #[] #[.pointer (some ⟨b,o,none⟩)]] w λe w'=>e=.returned (.int .i64 (eY name L 0))/\Below w.heap.size w w':=by
 obtain⟨a,cap,rfl,hc,hat⟩:=hv;go_enter Tryz.func149,Tryz.ntmps149;go_wp2;go_loopw [8] (λi wr=>∃k:Nat,k<=L.length/\i=.int .i64 k/\Hid (eY name L 0=eY name (L.drop k) k)/\Below w.heap.size w wr) (λi _=>L.length-(intOf i).toNat)
 case atStart=>exact⟨0,by omega,rfl,(by simp[Hid]:Hid (eY name L 0=eY name (L.drop 0) 0)),Below.refl _ _⟩
 case round =>
  obtain⟨k,hk,rfl,HF,hbel⟩:=hrel
  by_cases hlt:k<L.length
  ·obtain⟨b',o',rfl,_,hnd⟩:=hat k hlt
   obtain⟨c0,c1,c2,v,c3,hv⟩:=hnd.keep hbel
   obtain⟨va,vc,rfl⟩:=hv.slice
   have hs:=hbel.size
   have hcr:=ak hbel hc0
   clear hat hnd hc0
   by_cases he:L[k].name=name
   ·have g1:decide (L[k].name=name)=true:=by simp[he]
    have HK:Hid (eY name L 0=k):=(show eY name L 0=k by rw[HF.out,List.drop_eq_getElem_cons hlt,eY,if_pos he])
    clear he
    go_wp2_with (go_at_call 150;refine(Wj _ L[k] name _ _ _ hv hcr).mono ?_;rintro e w2⟨rfl,hb2⟩)
    go_ret
    exact⟨wO HK.out.symm,hbel.trans (hb2.mono (by omega))⟩
   ·have g1:decide (L[k].name=name)=false:=by simp[he]
    have HK:Hid (eY name L 0=eY name (L.drop (k+1)) (k+1)):=(show eY name L 0=_ by rw[HF.out,List.drop_eq_getElem_cons hlt,eY,if_neg he])
    clear he
    go_wp2_with (go_at_call 150;refine(Wj _ L[k] name _ _ _ hv hcr).mono ?_;rintro e w2⟨rfl,hb2⟩)
    go_roundw
    case rel=>exact⟨k+1,by omega,by go_num,HK,hbel.trans (hb2.mono (by omega))⟩
    case measure=>simp[intOf];omega
  ·go_wp2
   go_ret
   exact⟨wO (by rw[HF.out,List.drop_eq_nil_of_le (by omega)];rfl),hbel⟩
theorem vM (v:Value) (L:List Df) (name:ByteArray) (w:World) (hv:aG w v L) (hn:L.length<=1048576) :
  Calls Tryz.prog 90 #[v,.string name] w λe w'=>e=.returned (.int .i64 (eY name L 0))/\Below w.heap.size w w':=by
 obtain⟨a,cap,rfl⟩:∃a cap,v=.slice a L.length cap:=by obtain⟨a,cap,rfl,_⟩:=hv;exact⟨a,cap,rfl⟩
 have hB:∀o,Below w.heap.size w (w.alloc o):=λo=>(Below.refl _ _).alloc (Nat.le_refl _) _;go_enter Tryz.func90,Tryz.ntmps90;go_wp2_with (go_at_call 149;refine(acv _ L name _ _ _ (hv.keep (hB _)) hn (by simp)).mono ?_;rintro e w2⟨rfl,hb2⟩)
 go_ret
 exact⟨rfl,(hB _).trans (hb2.mono (by simp))⟩
open Go.Maps
def wd (a b:Int):DataW Unit:=.agg [.lit (.int .i64 a),.lit (.int .i64 b)]
def AA (v:Value):Option (DataW Unit×List MemPlace) :=
 match v with
 | .agg cs=>(match cs.toList with
  | [.int .i64 a,.int .i64 b]=>some (wd a b,[])
  | _=>none)
 | _=>none
theorem Wn (a b:Int):AA (.agg #[.int .i64 a,.int .i64 b])=some (wd a b,[]):=rfl
theorem acw {v:Value} {z:DataW Unit} {ps:List MemPlace} (h:AA v=some (z,ps)):∃a b,v=.agg #[.int .i64 a,.int .i64 b]/\z=wd a b:=by
 unfold AA at h;split at h
 ·rename_i cs
  split at h
  ·rename_i a b hcs
   simp only[Option.some.injEq,Prod.mk.injEq]at h;exact⟨a,b,by rw[<-hcs],h.1.symm⟩
  ·cases h
 ·cases h
def nO (s:ByteArray):Lit:=.string s.data.toList
theorem acy {s t:ByteArray} (h:s≠t):nO s≠nO t:=λe=>h (WideShapes.bytes_inj (by simpa[nO]using e))
def mapOf (L:List Df):DataW Unit:=L.foldl (λm d=>m.put (nO d.name) (wd d.inn d.out)) (.map [])
theorem Wp (L:List Df) (d:Df):mapOf (L++[d])=(mapOf L).put (nO d.name) (wd d.inn d.out):=by simp[mapOf,List.foldl_append]
theorem Wq (L:List Df):IsMap (mapOf L):=by
 have:∀(L:List Df) (m:DataW Unit),IsMap m->IsMap (L.foldl (λm d=>m.put (nO d.name) (wd d.inn d.out)) m):=by
  intro L;induction L with
  | nil=>intro m h;exact h
  | cons d r ih=>intro m h;exact ih _ (h.put _ _)
 exact this L _ isMap_empty
def oU (L:List Df) (s:ByteArray):Option Df:=L.reverse.find? λd=>decide (d.name=s)
theorem acz (L:List Df) (s:ByteArray):Maps.has (mapOf L) (nO s)=(oU L s).isSome/\∀z,(mapOf L).atKey (nO s) z=((oU L s).map λd=>wd d.inn d.out).getD z:=by
 have hk:∀t:ByteArray,WideAt.IsKeyLit (nO t):=λ_=>trivial;have key:∀R:List Df,Maps.has (mapOf R.reverse) (nO s)=(R.find? λd=>decide (d.name=s)).isSome/\∀z,(mapOf R.reverse).atKey (nO s) z=((R.find? λd=>decide (d.name=s)).map λd=>wd d.inn d.out).getD z:=by
  intro R;induction R with
  | nil =>
   have:Maps.has (mapOf []) (nO s)=false:=rfl
   exact⟨this,λz=>Maps.atKey_of_not_has this z⟩
  | cons d r ih =>
   rw[List.reverse_cons,Wp]
   by_cases h:d.name=s
   ·subst h
    constructor
    ·rw[Maps.has_put_same (Wq _) (hk _)];simp
    ·intro z;rw[Maps.atKey_put_same (Wq _) (hk _)];simp
   ·have hne:nO s≠nO d.name:=acy (Ne.symm h)
    constructor
    ·rw[Maps.has_put_other hne,ih.1];simp[h]
    ·intro z;rw[Maps.atKey_put_other hne,ih.2];simp[h]
 have:=key L.reverse;rwa [List.reverse_reverse]at this
def FV (w:World) (b:Nat) (L:List Df):Prop:=w.ownsMap Tryz.prog 9 AA b L.length (mapOf L)
def AB (w:World) (bc:Nat) (L:List Df):Prop:=∃bm,w.cell? ⟨bc,0,none⟩=some (.map (some bm))/\FV w bm L
theorem FV.keep {w w':World} (hb:Below w.heap.size w w') {b:Nat} {L:List Df} (h:FV w b L):FV w' b L:=by
 have hlt:=World.ownsMap.lt h;obtain⟨es,clock,h1,h2⟩:=h;exact⟨es,clock,(hb.block b hlt).trans h1,h2⟩
theorem AB.keep {w w':World} (hb:Below w.heap.size w w') {b:Nat} {L:List Df} (h:AB w b L):AB w' b L:=by
 obtain⟨bm,h1,h2⟩:=h;exact⟨bm,ak hb h1,h2.keep hb⟩
def jE (L:List Df) (n:Nd):W2×Bool :=
 if n.kind=17 then(((oU L n.name).map λd=>(d.inn,d.out)).getD (0,0),(oU L n.name).isSome&&(n.value==0))else cO n
theorem law9:Keyed Tryz.prog 9:=string_keyed Tryz.underlying9
theorem acA (w:World):(zeroValue 132).run Tryz.prog w=.ok (.agg #[.int .i64 0,.int .i64 0]) w:=by kernel_rfl
theorem acB {w:World} {b:Nat} {L:List Df} (h:FV w b L) (s:ByteArray) (hs:s.size<=1048576) :
  (Instr.lookup 192 (.map (some b)) (.string s) true).run Tryz.prog w=.ok (.tuple #[.agg #[.int .i64 (((oU L s).map λd=>(d.inn,d.out)).getD (0,0)).1,.int .i64 (((oU L s).map λd=>(d.inn,d.out)).getD (0,0)).2],.bool (oU L s).isSome]) w:=by
 obtain⟨v,ps,h1,h2⟩:=World.ownsMap.look_ok h law9 Tryz.underlying192 (acA w) (Wn 0 0) (WideMaps.keyOf_string_mk Tryz.underlying9 (s:=s) (by unfold maxLen;omega));obtain⟨l1,l2⟩:=acz L s;obtain⟨a,c,rfl,hz⟩:=acw h2;change (mapOf L).atKey (nO s) (wd 0 0)=_ at hz;rw[l2]at hz;rw[h1];have e1:Maps.has (mapOf L) (Lit.string s.data.toList)=(oU L s).isSome:=l1;change Result.ok (Value.tuple #[_,.bool (Maps.has (mapOf L) (Lit.string s.data.toList))]) w=_;rw[e1];cases hl:oU L s with
 | none =>
  rw[hl]at hz
  simp[wd]at hz
  simp[<-hz.1,<-hz.2]
 | some d =>
  rw[hl]at hz
  simp[wd]at hz
  simp[hz.1,hz.2]
theorem FB (n:Nd) (L:List Df) (bc:Nat) (w:World) (ht:AB w bc L) (hs:n.name.size<=1048576) :
  Calls Tryz.prog 139 #[.agg #[.int .i64 n.kind,.int .i64 n.value,.string n.name],.pointer (some ⟨bc,0,none⟩)] w λe w' =>
   e=.returned (.tuple #[.agg #[.int .i64 (jE L n).1.1,.int .i64 (jE L n).1.2],.bool (jE L n).2])/\Below w.heap.size w w':=by
 by_cases hk:n.kind=17
 ·obtain⟨bm,hc,hm⟩:=ht;have hbc:=cell_lt hc;have g1:(n.kind != 17)=false:=by simp[hk]
  have HR:=Lib.hid (show jE L n=(((oU L n.name).map λd=>(d.inn,d.out)).getD (0,0),(oU L n.name).isSome&&(n.value==0))by simp[jE,hk]);have hlook:∀o o',(Instr.lookup 192 (.map (some bm)) (.string n.name) true).run Tryz.prog ((w.alloc o).alloc o')=_:=λo o'=>acB (hm.keep (((Below.refl _ _).alloc (Nat.le_refl _) _).alloc (by simp) _)) n.name hs;generalize(((oU L n.name).map λd=>(d.inn,d.out)).getD (0,0))=z at HR hlook;clear hk hm;cases hsome:(oU L n.name).isSome;all_goals
   rw[hsome]at HR hlook
   clear hsome
   go_enter Tryz.func139,Tryz.ntmps139
   go_wp2
   go_region
   go_wp2
   refine bodyPost_ret (v:=.tuple #[.agg #[.int .i64 (jE L n).1.1,.int .i64 (jE L n).1.2],.bool (jE L n).2]) (by simp[results,Tryz.results139,go_sem,HR.out]) rfl ⟨rfl,?_⟩
   repeat(first|exact Below.refl _ _|with_reducible refine Below.drew ?_|refine Below.alloc ?_ (by simp<;>omega) _)
 ·have g1:(n.kind != 17)=true:=by simp[hk]
  have HR:=Lib.hid (show jE L n=cO n by simp[jE,hk]);clear hk ht;go_enter Tryz.func139,Tryz.ntmps139;go_wp2_with (go_at_call 140;refine(ab8 n _).mono ?_;rintro e w2⟨rfl,hb2⟩;obtain⟨hc2,hf2,hs2⟩:=bH hb2;simp only[World.size_alloc]at hs2 hb2)
  refine bodyPost_ret (v:=.tuple #[.agg #[.int .i64 (jE L n).1.1,.int .i64 (jE L n).1.2],.bool (jE L n).2]) (by simp[results,Tryz.results139,go_sem,hc2,HR.out]) rfl ⟨rfl,?_⟩;exact(((((Below.refl _ _).alloc (Nat.le_refl _) _).alloc (by simp) _).trans (hb2.mono (by omega))).setCell (by simp) _).setCell (by simp) _
def FW (w wr:World) (L:List Df) (k:Nat):Prop :=
 wr.ownsMap Tryz.prog 9 AA w.heap.size k (mapOf (L.take k))/\wr.cell? ⟨w.heap.size+1,0,none⟩=some (.map (some w.heap.size))/\Below w.heap.size w wr/\w.heap.size+2<=wr.heap.size
theorem acC (w:World) (L:List Df):FW w ((w.alloc (Obj.map #[] 0)).alloc (Obj.cells #[Value.map (some w.heap.size)] 192)) L 0:=by
 refine⟨?_,by simp,((Below.refl _ _).alloc (Nat.le_refl _) _).alloc (by simp) _,by simp⟩;rw[List.take_zero];exact(World.ownsMap_made w _ _ _).alloc _
theorem acD {w wr w1:World} {L:List Df} {k:Nat} (h:FW w wr L k) (hk:k<L.length) {o:Obj} (hown:w1.ownsMap Tryz.prog 9 AA w.heap.size (k+1) ((mapOf (L.take k)).put (nO L[k].name) (wd L[k].inn L[k].out)))
  (hg:(wr.alloc o).grownBy w1 (some w.heap.size)):FW w w1 L (k+1):=by
 obtain⟨h1,h2,h3,h4⟩:=h;refine⟨?_,?_,?_,?_⟩
 ·rw[List.take_succ_eq_append_getElem hk,Wp];exact hown
 ·refine hg.cell ?_ (by simp);rw[World.cell?_alloc_lt _ _ ⟨w.heap.size+1,0,none⟩ (by simp;omega)];exact h2
 ·exact(h3.alloc (by omega) o).grown hg (by simp;omega) (by intro k hk;simp at hk;omega)
 ·have:=hg.size;simp at this;omega
theorem acE {w wr:World} {L:List Df} (h:FW w wr L L.length):AB wr (w.heap.size+1) L/\w.heap.size<=w.heap.size+1/\Below w.heap.size w wr:=by
 obtain⟨h1,h2,h3,h4⟩:=h;rw[List.take_length]at h1;exact⟨⟨_,h2,h1⟩,by omega,h3⟩
theorem Jb (v:Value) (L:List Df) (w:World) (hv:aG w v L) (hn:L.length<=1048576) (hs:∀d∈L,d.name.size<=1048576) :
  Calls Tryz.prog 82 #[v] w λe w'=>∃bc:Nat,e=.returned (.func (.func 139) #[] #[.pointer (some ⟨bc,0,none⟩)])/\AB w' bc L/\w.heap.size<=bc/\Below w.heap.size w w':=by
 obtain⟨a,cap,rfl,hc,hat⟩:=hv;have hmm:=@run_makeMap Tryz.prog;go_enter Tryz.func82,Tryz.ntmps82;go_wp2;go_loopw [9] (λi wr=>∃k:Nat,k<=L.length/\i=.int .i64 k/\FW w wr L k) (λi _=>L.length-(intOf i).toNat)
 case atStart=>exact⟨0,Nat.zero_le _,rfl,acC w L⟩
 case round =>
  obtain⟨k,hk,rfl,JA⟩:=hrel
  by_cases hlt:k<L.length
  ·obtain⟨b,o,rfl,_,hnd⟩:=hat k hlt
   have acF:=JA
   obtain⟨hown,hcm,hbel,hsz⟩:=acF
   obtain⟨c0,c1,c2,v,c3,hv⟩:=hnd.keep hbel
   obtain⟨va,vc,rfl⟩:=hv.slice
   have hnm:=hs L[k] (List.getElem_mem _)
   have hsz1:w.heap.size+1<wr.heap.size:=by omega
   clear hat hnd hs hv
   go_wp2_with (at_mapUpdate;go_must (refine wpList_mapUpdate_own _ rfl _ _ _ 192 rfl 9 132 law9 Tryz.underlying192 AA w.heap.size k _ rfl (hown.alloc _) (by unfold maxLen;omega) _ _ _ rfl rfl (WideMaps.keyOf_string_mk Tryz.underlying9 (s:=L[k].name) (by unfold maxLen;omega)) (wd L[k].inn L[k].out) [] (Wn _ _) ?_);intro w1 hown1 hgrow1)
   have acG:=acD JA hlt (o:=.cells #[.string L[k].name,.int .i64 L[k].inn,.int .i64 L[k].out,.slice va L[k].body.length vc] 101) hown1 hgrow1
   clear hown1 hgrow1 hown hcm hbel JA
   go_wp2
   go_roundw
   case rel=>exact⟨k+1,by omega,by go_num,acG⟩
   case measure=>simp[intOf];omega
  ·go_wp2
   go_ret
   have hkk:k=L.length:=by omega
   subst hkk
   exact⟨_,rfl,acE JA⟩
def dY (k:Int) (a b:W2):W2×Bool :=
 if k=15 then((a.1,b.2),a.2==b.1)else((a.1+b.1,a.2+b.2),decide (a.1+b.1<=12)&&decide (a.2+b.2<=12))
theorem U8 (k:Int) (a b:W2):(if(dY k a b).2 then some (dY k a b).1 else none)=gJ k a b:=by
 unfold dY gJ;split
 ·simp
 ·simp
def Sm (a:W2):Prop:=0<=a.1/\a.1<=12/\0<=a.2/\a.2<=12
theorem Ve (k:Int) (a b:W2) (w:World) (ha:Sm a) (hb:Sm b) :
  Calls Tryz.prog 138 #[.int .i64 k,.agg #[.int .i64 a.1,.int .i64 a.2],.agg #[.int .i64 b.1,.int .i64 b.2]] w λe w' =>
   e=.returned (.tuple #[.agg #[.int .i64 (dY k a b).1.1,.int .i64 (dY k a b).1.2],.bool (dY k a b).2])/\Below w.heap.size w w':=by
 obtain⟨a1,a2⟩:=a;obtain⟨b1,b2⟩:=b;obtain⟨p1,p2,p3,p4⟩:=ha;obtain⟨q1,q2,q3,q4⟩:=hb;simp only at p1 p2 p3 p4 q1 q2 q3 q4;by_cases hk:k=15
 ·have g1:(k==15)=true:=by simp[hk]
  have HR:=Lib.hid (show dY k (a1,a2) (b1,b2)=((a1,b2),a2==b1)by simp[dY,hk]);clear hk;go_enter Tryz.func138,Tryz.ntmps138;go_wp2_with fail
  go_region
  go_wp2;refine bodyPost_ret (v:=.tuple #[.agg #[.int .i64 (dY k (a1,a2) (b1,b2)).1.1,.int .i64 (dY k (a1,a2) (b1,b2)).1.2],.bool (dY k (a1,a2) (b1,b2)).2]) (by simp[results,Tryz.results138,go_sem,HR.out]) rfl ⟨rfl,?_⟩;repeat(first|exact Below.refl _ _|with_reducible refine Below.drew ?_|refine Below.alloc ?_ (by simp<;>omega) _)
 ·have g1:(k==15)=false:=by simp[hk]
  have HR:=Lib.hid (show dY k (a1,a2) (b1,b2)=((a1+b1,a2+b2),decide (a1+b1<=12)&&decide (a2+b2<=12))by simp[dY,hk]);clear hk;go_enter Tryz.func138,Tryz.ntmps138;go_wp2_with fail
  refine wW (C:=Grew ((((w.alloc _).alloc _).alloc _).alloc _).drew) 3 (by kernel_rfl) (by kernel_rfl) (by kernel_rfl) (Grew.refl _) ?_;simp only[List.take_succ_cons,List.take_zero,List.drop_succ_cons,List.drop_zero];iterate 2
   refine iJ (λK hK=>?_)
   refine nI rfl ?_
   apply Exists.intro
   refine⟨λw' hw'=>?_,?_⟩
   ·obtain⟨hc',hf',_⟩:=bH hw'
    go_simp
    rfl
   go_simp
   refine hK _ _ ?_
   clear hK K
  refine iJ (λK hK=>?_);refine g_call rfl rfl 184 ?_;apply Exists.intro;refine⟨λw' hw'=>?_,?_⟩;(focus go_simp;rfl);refine(abA _ _ _).mono ?_;rintro e w3⟨rfl,hb3⟩;refine⟨_,rfl,hb3,?_⟩;go_simp;apply hK;clear hK K;refine wX ?_;obtain⟨hc3,hf3,hs3⟩:=bH hb3;simp only[World.size_alloc,World.size_drew]at hs3 hb3;go_wp2;refine bodyPost_ret (v:=.tuple #[.agg #[.int .i64 (dY k (a1,a2) (b1,b2)).1.1,.int .i64 (dY k (a1,a2) (b1,b2)).1.2],.bool (dY k (a1,a2) (b1,b2)).2]) (by simp[results,Tryz.results138,go_sem,HR.out,hc3]) rfl ⟨rfl,?_⟩;refine(Below.setCell (Below.setCell ?_ (by simp;omega) _) (by simp;omega) _);refine Below.trans ?_ (Below.mono hb3 (by omega));repeat(first|exact Below.refl _ _|with_reducible refine Below.drew ?_|refine Below.alloc ?_ (by simp<;>omega) _)
theorem DR (n:Nd) (w:World) :
  Calls Tryz.prog 134 #[.agg #[.int .i64 n.kind,.int .i64 n.value,.string n.name]] w λe w'=>e=.returned (.tuple #[.int .i64 (fH n).1,.int .i64 (fH n).2])/\Below w.heap.size w w':=by
 by_cases hk:n.kind=1
 ·have g1:(n.kind==1)=true:=by simp[hk]
  have HR:=Lib.hid (show fH n=(n.value,n.value)by simp[fH,hk]);clear hk;go_enter Tryz.func134,Tryz.ntmps134;go_wp2_with fail
  go_region
  go_wp2;go_ret2
  exact⟨by rw[HR.out];rfl,((Below.refl _ _).alloc (Nat.le_refl _) _).drew⟩
 ·have g1:(n.kind==1)=false:=by simp[hk]
  have HR:=Lib.hid (show fH n=gZ n.kind by simp[fH,hk]);clear hk;go_enter Tryz.func134,Tryz.ntmps134;go_wp2_with (go_at_call 182;refine(abB _ _).mono ?_;rintro e w2⟨rfl,rfl⟩)
  go_ret2
  exact⟨by rw[HR.out];rfl,(Below.refl _ _).alloc (Nat.le_refl _) _⟩
theorem qh (n:Nd) (w:World) :
  Calls Tryz.prog 144 #[.agg #[.int .i64 n.kind,.int .i64 n.value,.string n.name]] w λe w'=>e=.returned (.bool (gB n))/\Below w.heap.size w w':=by
 by_cases he:n.name=ByteArray.empty
 ·have h0:n.name.toList=[]:=(toList_nil_iff_emptyBytes _).2 he;have g0:(!n.name.toList.isEmpty)=false:=by simp[h0]
  by_cases hin:1<=n.kind/\n.kind<=14
  ·have gi:inB n.kind 1 14=true:=by simp[inB];omega
   have a1:decide (1<=n.kind)=true:=by simp;omega
   have a2:decide (n.kind<=14)=true:=by simp;omega
   by_cases h1:n.kind=1
   ·have g1:(n.kind==1)=true:=by simp[h1]
    have HR:=Lib.hid (show gB n=inB n.value 0 12 by simp[gB,he,h1,inB]);clear h1 he h0 a1 a2;go_enter Tryz.func144,Tryz.ntmps144;go_wp2_with (go_at_call 143;refine(qI _ _ _ _).mono ?_;rintro e w2⟨rfl,rfl⟩)
    go_ret
    exact⟨dI HR.out.symm,(Below.refl _ _).alloc (Nat.le_refl _) _⟩
   have g1:(n.kind==1)=false:=by simp[h1]
   by_cases h7:n.kind=7
   ·have g7:(n.kind==7)=true:=by simp[h7]
    have HR:=Lib.hid (show gB n=inB n.value 0 96 by simp[gB,he,h7,inB]);clear h1 he h0 a1 a2 h7;go_enter Tryz.func144,Tryz.ntmps144;go_wp2_with (go_at_call 143;refine(qI _ _ _ _).mono ?_;rintro e w2⟨rfl,rfl⟩)
    go_ret
    exact⟨dI HR.out.symm,(Below.refl _ _).alloc (Nat.le_refl _) _⟩
   have g7:(n.kind==7)=false:=by simp[h7]
   by_cases h13:n.kind=13
   ·have g13:(n.kind==13)=true:=by simp[h13]
    have HR:=Lib.hid (show gB n=inB n.value 0 96 by simp[gB,he,h13,inB]);clear h1 he h0 a1 a2 h7 h13;go_enter Tryz.func144,Tryz.ntmps144;go_wp2_with (go_at_call 143;refine(qI _ _ _ _).mono ?_;rintro e w2⟨rfl,rfl⟩)
    go_ret
    exact⟨dI HR.out.symm,(Below.refl _ _).alloc (Nat.le_refl _) _⟩
   have g13:(n.kind==13)=false:=by simp[h13]
   have HR:=Lib.hid (show gB n=(n.value==0)by unfold gB;rw[a1,a2,if_neg h1,if_neg (by omega)];simp[he];rfl);clear h1 he h0 a1 a2 h7 h13;go_enter Tryz.func144,Tryz.ntmps144;go_wp2_with (go_at_call 143;refine(qI _ _ _ _).mono ?_;rintro e w2⟨rfl,rfl⟩)
   go_ret
   exact⟨dI HR.out.symm,(Below.refl _ _).alloc (Nat.le_refl _) _⟩
  ·have gi:inB n.kind 1 14=false:=by simp[inB];omega
   have HR:=Lib.hid (show gB n=false by
    unfold gB;have a1:(decide (1<=n.kind)&&decide (n.kind<=14))=false:=by simp;omega
    simp only[Bool.and_assoc];rw[<-Bool.and_assoc (decide (1<=n.kind)),a1];simp)
   clear he h0;go_enter Tryz.func144,Tryz.ntmps144;go_wp2_with (go_at_call 143;refine(qI _ _ _ _).mono ?_;rintro e w2⟨rfl,rfl⟩)
   go_ret
   exact⟨dI HR.out.symm,(Below.refl _ _).alloc (Nat.le_refl _) _⟩
 ·have g0:(!n.name.toList.isEmpty)=true:=by simpa using λh=>he ((toList_nil_iff_emptyBytes _).1 h)
  have HR:=Lib.hid (show gB n=false by simp[gB,he]);clear he;go_enter Tryz.func144,Tryz.ntmps144;go_wp2;go_ret
  exact⟨dI HR.out.symm,(Below.refl _ _).alloc (Nat.le_refl _) _⟩
def jX (x:W2):List Value:=[.int .i64 x.1,.int .i64 x.2]
theorem rY (x:W2):(jX x).length=2:=rfl
def b_ (L:List Df) (n:Nd):Option W2:=if(jE L n).2 then some (jE L n).1 else none
theorem U7:(Tryz.prog.info? 132).map (λi=>(i.zero,i.size,i.bytes))=some (some (.agg #[.int .i64 0,.int .i64 0]),2,16):=by kernel_rfl
theorem uh {w:World} {B e sz g n cap:Nat} {xs:List Value} (h:w.ownsRow B e sz (.slice (some ⟨g,0,none⟩) n cap) n xs) (m:Nat) (hm:m<=n) :
  w.ownsRow B e sz (.slice (some ⟨g,0,none⟩) m cap) m (xs.take (m*sz)):=by
 have hms:m*sz<=n*sz:=Nat.mul_le_mul_right _ hm;obtain⟨h1,h2⟩:=h;refine⟨by rw[List.length_take,h1];omega,?_⟩;rcases h2 with⟨h,_⟩|⟨g',cap',cur,h,hb,hg,hc,hm',hs,ht⟩
 ·simp at h
 ·simp only[Value.slice.injEq,Option.some.injEq,Addr.mk.injEq,and_true,true_and]at h;obtain⟨rfl,rfl⟩:=h;refine .inr ⟨g,cap,cur,rfl,hb,hg,by omega,hm',hs,?_⟩;rw[<-ht,List.take_take,Nat.min_eq_left hms]
def Stk (wr:World) (B:Nat) (v:Value) (st:List W2):Prop:=wr.ownsRow B 132 2 v st.length (st.flatMap jX)/\∀x∈st,Sm x
def acH (L:List Df) (ns:List Nd) (w:World) (e:Ending) (w':World):Prop :=
 ∃x:W2,e=.returned (.tuple #[.agg #[.int .i64 x.1,.int .i64 x.2],.bool (aS (b_ L) ns).isSome])/\(∀t,aS (b_ L) ns=some t->x=t)/\Below w.heap.size w w'
def qR (w:World):World:=w.alloc (.cells #[.int .i64 0,.int .i64 0] 132)
def AL (L:List Df) (ns:List Nd) (w wr:World) (v:Value) (k:Nat) (st:List W2):Prop :=
 Stk wr (w.heap.size+1) v st/\Hid (bU (b_ L) ns []=bU (b_ L) (ns.drop k) st.reverse)/\Below (w.heap.size+1) (qR w) wr/\st.length<=k/\(k=0\/st≠[])
theorem AL.facts {L:List Df} {ns:List Nd} {w wr:World} {v:Value} {k:Nat} {st:List W2} (h:AL L ns w wr v k st) :
  wr.cell? ⟨w.heap.size,0,none⟩=some (.int .i64 0)/\wr.cell? ⟨w.heap.size,1,none⟩=some (.int .i64 0)/\wr.frozen? ⟨w.heap.size,0,none⟩=false/\wr.frozen? ⟨w.heap.size,1,none⟩=false/\w.heap.size<wr.heap.size/\Below w.heap.size w wr:=by
 obtain⟨_,_,hb,_⟩:=h;have hsz:=hb.size;have h0:(qR w).heap.size=w.heap.size+1:=by simp[qR]
 refine⟨?_,?_,?_,?_,by omega,((Below.refl _ _).alloc (Nat.le_refl _) _).trans (hb.mono (by omega))⟩
 ·rw[hb.cell (p:=⟨w.heap.size,0,none⟩) (by simp)];simp[qR]
 ·rw[hb.cell (p:=⟨w.heap.size,1,none⟩) (by simp)];simp[qR]
 ·rw[hb.frozen (p:=⟨w.heap.size,0,none⟩) (by simp)];simp[qR]
 ·rw[hb.frozen (p:=⟨w.heap.size,1,none⟩) (by simp)];simp[qR]
theorem Ja {L:List Df} (hsm:∀d∈L,Sm (d.inn,d.out)) {n:Nd} {x:W2} (h:b_ L n=some x):Sm x:=by
 unfold b_ at h;split at h
 ·rename_i hok
  obtain rfl:=Option.some.inj h;unfold jE at hok ⊢;split at hok
  ·rename_i hk
   rw[if_pos hk];simp only[Bool.and_eq_true]at hok;obtain⟨d,hd⟩:=Option.isSome_iff_exists.1 hok.1;rw[hd];have hm:d∈L:=by have:=List.mem_of_find?_eq_some hd;simpa using this
   exact hsm d hm
  ·rename_i hk
   rw[if_neg hk];unfold cO at hok ⊢;split
   ·simp_all
   ·rename_i h1
    rw[if_neg h1]at hok;split
    ·rename_i h2
     rw[if_pos h2]at hok;simp[inB]at hok;exact⟨hok.1,hok.2,hok.1,hok.2⟩
    ·rename_i h2
     rw[if_neg h2]at hok;split
     ·exact⟨by simp,by simp,by simp,by simp⟩
     ·rename_i h3
      split
      ·simp only[gZ];repeat' split
       all_goals exact⟨by simp,by simp,by simp,by simp⟩
      ·exact⟨by simp,by simp,by simp,by simp⟩
 ·cases h
theorem Oe {k:Int} {a b x:W2} (ha:Sm a) (hb:Sm b) (h:gJ k a b=some x):Sm x:=by
 obtain⟨p1,p2,p3,p4⟩:=ha;obtain⟨q1,q2,q3,q4⟩:=hb;unfold gJ at h;split at h
 ·split at h
  ·obtain rfl:=Option.some.inj h;exact⟨p1,p2,q3,q4⟩
  ·cases h
 ·split at h
  ·rename_i hh
   obtain rfl:=Option.some.inj h;exact⟨by simp;omega,hh.1,by simp;omega,hh.2⟩
  ·cases h
theorem jc {w:World} {B e sz:Nat} {v:Value} {n:Nat} {xs:List Value} (h:w.ownsRow B e sz v n xs):∃ao cp,v=.slice ao n cp:=by
 rcases h.2 with⟨rfl,rfl⟩|⟨g,cap,cur,rfl,_⟩
 ·exact⟨_,_,rfl⟩
 ·exact⟨_,_,rfl⟩
theorem ug {w:World} {B e sz:Nat} {v:Value} {n:Nat} {xs:List Value} (h:w.ownsRow B e sz v n xs) (hn:0<n):∃g cp,v=.slice (some ⟨g,0,none⟩) n cp/\n<=cp/\cp<=maxLen/\B<=g/\g<w.heap.size:=by
 have h':=h;rcases h.2 with⟨rfl,rfl⟩|⟨g,cap,cur,rfl,hb,hg,hc,hm,_⟩
 ·omega
 ·exact⟨g,cap,rfl,hc,hm,hb,(World.ownsRow.lt h' g rfl).2⟩
theorem Fh {α:Type} (st:List α) (h:¬st.length<2):∃(s:List α) (a b:α),st=s++[a,b]:=by
 match hr:st.reverse,h with
 | [],h=>have:=congrArg List.length hr;simp at this;subst this;simp at h
 | [x],h=>have:=congrArg List.length hr;simp at this;omega
 | b::a::r,h =>
  refine⟨r.reverse,a,b,?_⟩
  have:=congrArg List.reverse hr
  simpa using this
theorem acI {L:List Df} {ns:List Nd} {w wr w2 w3:World} {v v':Value} {k:Nat} {st:List W2} {x:W2} {o o2 o3:Obj} (h:AL L ns w wr v k st)
  (hgo:Hid (bU (b_ L) ns []=bU (b_ L) (ns.drop (k+1)) (x::st.reverse))) (hx:Sm x) (hb2:Below (wr.alloc o).heap.size (wr.alloc o) w2)
  (hown:w3.ownsRow (w.heap.size+1) 132 2 v' (st.length+1) (st.flatMap jX++[.int .i64 x.1,.int .i64 x.2])) (hg:((w2.alloc o2).alloc o3).grownBy w3 v.ownBlock):AL L ns w w3 v' (k+1) (st++[x]):=by
 have hf:=h.facts;obtain⟨⟨h1,h2⟩,h3,h4,h5,h6⟩:=h;have hz:=hb2.size;have iY:=h4.size;simp only[World.size_alloc,qR]at hz iY;refine⟨⟨?_,?_⟩,?_,?_,by simp;omega,.inr (by simp)⟩
 ·rw[List.length_append,List.flatMap_append];exact hown
 ·intro y hy;rcases List.mem_append.1 hy with hy|hy
  ·exact h2 y hy
  ·simp at hy;subst hy;exact hx
 ·rw[List.reverse_append];exact hgo
 ·have hb:Below (w.heap.size+1) (qR w) ((w2.alloc o2).alloc o3) :=
   (((h4.alloc (by omega) o).trans (hb2.mono (by simp;omega))).alloc (by omega) _).alloc (by simp;omega) _
  exact hb.grown hg (by simp;omega) (λj hj=>(World.ownsRow.lt h1 j hj).1)
theorem acJ {L:List Df} {ns:List Nd} {w wr w2:World} {v v':Value} {k:Nat} {st0:List W2} {p q x:W2} (h:AL L ns w wr v k (st0++[p,q]))
  (hgo:Hid (bU (b_ L) ns []=bU (b_ L) (ns.drop (k+1)) (x::st0.reverse))) (hx:Sm x) (hb:Below (w.heap.size+1) wr w2)
  (hown:w2.ownsRow (w.heap.size+1) 132 2 v' (st0.length+1) (st0.flatMap jX++[.int .i64 x.1,.int .i64 x.2])):AL L ns w w2 v' (k+1) (st0++[x]):=by
 obtain⟨⟨h1,h2⟩,h3,h4,h5,h6⟩:=h;simp at h5;refine⟨⟨?_,?_⟩,?_,h4.trans hb,by simp;omega,.inr (by simp)⟩
 ·rw[List.length_append,List.flatMap_append];exact hown
 ·intro y hy;rcases List.mem_append.1 hy with hy|hy
  ·exact h2 y (List.mem_append.2 (.inl hy))
  ·simp at hy;subst hy;exact hx
 ·rw[List.reverse_append];exact hgo
theorem Om (v:Value) (ns:List Nd) (L:List Df) (bc:Nat) (w:World) (hv:aZ w v ns) (ht:AB w bc L) (hn:ns.length<=1048576) (hs:∀d∈ns,d.name.size<=1048576) (hsm:∀d∈L,Sm (d.inn,d.out)) :
  Calls Tryz.prog 81 #[v,.func (.func 139) #[] #[.pointer (some ⟨bc,0,none⟩)]] w (acH L ns w):=by
 obtain⟨a,cap,rfl,hc,hat⟩:=hv;by_cases hl:1<=ns.length/\ns.length<=400
 ·have g1:inB ns.length 1 400=true:=by simp[inB];omega
  go_enter Tryz.func81,Tryz.ntmps81;go_wp2_with (go_at_call 71;refine(pV _ _ _ _).mono ?_;rintro e w1⟨rfl,rfl⟩)
  have yQ:∀n x,b_ L n=some x->Sm x:=λn x h=>Ja hsm h;obtain⟨i0,hi,hz0,hz1,hz2⟩:=info_parts U7;go_loopw [6,22] (λv i wr=>∃(k:Nat) (st:List W2),k<=ns.length/\i=.int .i64 k/\AL L ns w wr v k st) (λ_ i _=>ns.length-(intOf i).toNat)
  case atStart =>
   refine⟨0,[],Nat.zero_le _,rfl,⟨?_,by simp⟩,(by simp[Hid]:Hid (bU (b_ L) ns []=bU (b_ L) (ns.drop 0) ([]:List W2).reverse)),(Below.refl _ _).alloc (by simp[qR]) _,Nat.le_refl _,.inl rfl⟩
   have:=World.ownsRow_lit (base:=w.heap.size+1) (size:=2) (e:=132) (qR w) #[] 0 (by simp[qR]) (by unfold maxLen;omega) rfl
   simpa[qR]using this
  case round =>
   obtain⟨k,st,hk,rfl,hst⟩:=hrel
   obtain⟨r0,r1,Ws,Wu,hsz,hbel⟩:=hst.facts
   by_cases hlt:k<ns.length
   ·obtain⟨b,o,rfl,_,hnd⟩:=hat k hlt
    obtain⟨c0,c1,c2⟩:=hnd.keep hbel
    have hnm:=hs ns[k] (List.getElem_mem _)
    clear hat hnd hs
    by_cases hk1:ns[k].kind=15\/ns[k].kind=16
    ·have hdrop:=List.drop_eq_getElem_cons hlt
     have hgo0:=hst.2.1
     have hkk:((ns[k].kind != 15)=false)\/((ns[k].kind != 15)=true/\(ns[k].kind != 16)=false):=by
      rcases hk1 with h|h<;>simp[h]
     by_cases hval:ns[k].value=0/\ns[k].name=ByteArray.empty
     ·obtain⟨hv0,hm0⟩:=hval
      have gv:(ns[k].value != 0)=false:=by simp[hv0]
      have gn:(!ns[k].name.toList.isEmpty)=false:=by have:=(toList_nil_iff_emptyBytes _).2 hm0;simp[this]
      by_cases hlen:st.length<2
      ·have HT:Hid (aS (b_ L) ns=none):=(show aS (b_ L) ns=none by
        unfold aS;rw[if_pos hl,hgo0.out,hdrop,UG hk1 (by simpa using hlen)])
       have gl:(st.length:Int)<2:=by omega
       obtain⟨ao,cp,rfl⟩:=jc hst.1.1
       clear hv0 hm0 hdrop hgo0 hk1 hst
       rcases hkk with gk|⟨gk,yS⟩
       all_goals
        go_wp2
        refine bodyPost_ret (v:=.tuple #[.agg #[.int .i64 0,.int .i64 0],.bool false]) (by simp[results,Tryz.results81,go_sem,hsz,r0,r1]) rfl ⟨(0,0),by rw[HT.out];rfl,by rw[HT.out];simp,?_⟩
        (repeat(first|(with_reducible refine Below.alloc ?_ ?_ _;rotate_left;(first|omega|(simp;done)|(simp;omega)))|(with_reducible refine Below.setCell ?_ ?_ _;rotate_left;(first|exact Nat.le_refl _|(simp;done)|(simp;omega)))|(with_reducible refine Below.drew ?_)));exact hbel
      ·obtain⟨st0,p,q,rfl⟩:=Fh st hlen
       obtain⟨g,cp,rfl,hgc,hgm,hgB,hgs⟩:=ug hst.1.1 (by simp)
       simp only[List.length_append,List.length_cons,List.length_nil,Nat.zero_add,Nat.reduceAdd]at hst hgc
       have hpq:Sm p/\Sm q:=⟨hst.1.2 p (by simp),hst.1.2 q (by simp)⟩
       have hown0:wr.ownsRow (w.heap.size+1) 132 2 (.slice (some ⟨g,0,none⟩) (st0.length+2) cp) (st0.length+2) ((st0++[p,q]).flatMap jX):=by
        have h0:=hst.1.1;rw[show(st0++[p,q]).length=st0.length+2 by simp]at h0;exact h0
       have d0:=gQ rY hown0 st0.length 0 (by simp) (by omega)
       have d1:=gQ rY hown0 st0.length 1 (by simp) (by omega)
       have d2:=gQ rY hown0 (st0.length+1) 0 (by simp) (by omega)
       have d3:=gQ rY hown0 (st0.length+1) 1 (by simp) (by omega)
       simp[jX]at d0 d1 d2 d3
       have gl:¬((st0.length:Int)+2)<2:=by omega
       have hl0:st0.length<=1048576:=by have:=hst.2.2.2.1;simp at this;omega
       have jO:∀x,gJ ns[k].kind p q=some x->Hid (bU (b_ L) ns []=bU (b_ L) (ns.drop (k+1)) (x::st0.reverse)):=λx hx=>(show bU (b_ L) ns []=_ by
        rw[hgo0.out,hdrop];have e:(st0++[p,q]).reverse=q::p::st0.reverse:=by simp
        rw[e,UJ hk1 hv0 hm0 hx])
       have mX:gJ ns[k].kind p q=none->Hid (aS (b_ L) ns=none):=λhx=>(show aS (b_ L) ns=none by
        unfold aS;have e:(st0++[p,q]).reverse=q::p::st0.reverse:=by simp
        rw[if_pos hl,hgo0.out,hdrop,e,UH hk1 hx])
       have Wv:=U8 ns[k].kind p q
       have HH:=And.intro jO mX
       have HJ:=Lib.hid (And.intro HH Wv)
       clear hv0 hm0 hdrop hgo0 hk1 HH Wv jO mX
       rcases hkk with gk|⟨gk,yS⟩
       all_goals
        go_wp2_with fail
        have e1:IntKind.i64.wrap ((st0.length:Int)+2-1-1)=(st0.length:Int):=by rw[show(st0.length:Int)+2-1-1=(st0.length:Int)by omega];exact IntWalk.i64_in _ (by omega)
        have e2:((st0.length:Int)+2-1).toNat=st0.length+1:=by omega
        have e3:0<=(st0.length:Int)+2-1/\(st0.length:Int)+2-1<(st0.length:Int)+2:=by omega
        have e4:0<=(st0.length:Int)/\(st0.length:Int)<(st0.length:Int)+2:=by omega
        have e5:1<=(st0.length:Int)+2:=by omega
        refine bC (C:=ah (aQ) _) 2 [0,1,2,3,4,5,6,7,8,9,10,11,12,13,14,15,16,17] (by kernel_rfl) (by kernel_rfl) (ah.grows _ _) (ah.refl _ _) ?_
        iterate 11 (apply ay rfl rfl rfl;(focus intro u hc' hf';go_simp<;>rfl);intro K hK;go_simp;apply hK;clear hK K)
        refine aX rfl rfl rfl (ah.grows _ _) (ah.refl _ _) 138 (λK hK=>?_);apply Exists.intro;refine⟨λw' hw'=>?_,λw' hw' hbw=>?_⟩;(focus go_simp;rfl);refine(Ve _ p q _ hpq.1 hpq.2).mono ?_;rintro e w3⟨rfl,hb3⟩;refine⟨_,rfl,hb3,λhx=>?_⟩;go_simp;apply hK;clear hK K
        iterate 3 (apply ay rfl rfl rfl;(focus intro u hc' hf';go_simp<;>rfl);intro K hK;go_simp;apply hK;clear hK K)
        refine fG rfl rfl rfl (ah.grows _ _) hx (λb=>.pointer (some ⟨b,0,none⟩)) (λK hK=>?_)
        apply Exists.intro
        refine⟨λw' hw'=>?_,λbb w4 hw4 hb4 aI hNb hnb=>?_⟩
        ·go_simp
         rfl
        go_simp
        refine hK _ _ _ ?_
        clear hK K
        refine eH rfl rfl rfl (ah.grows _ _) hw4 (λK hK=>?_)
        intro w5 hw5 hb5
        obtain⟨m0,m1,m2⟩:=made_cell ((hb5.block bb (made_cell aI).2.2).trans aI)
        refine⟨(w5.setCell ⟨bb,0,none⟩ (.int .i64 (dY ns[k].kind p q).1.1)).setCell ⟨bb,1,none⟩ (.int .i64 (dY ns[k].kind p q).1.2),?_,⟨aB (aB hw5 (.inl hNb) _) (.inl hNb) _,by simp,λj _ hj _=>by rw[Below.heap_setCell _ _ _ _ (λh=>hj (by simp[h])),Below.heap_setCell _ _ _ _ (λh=>hj (by simp[h]))]⟩,?_⟩
        ·go_simp
        go_simp
        refine hK _ _ _ ?_
        clear hK K
        iterate 1 (apply ay rfl rfl rfl;(focus intro u hc' hf';go_simp<;>rfl);intro K hK;go_simp;apply hK;clear hK K)
        refine aK ?_
        have hb6:Below wr.heap.size wr ((w5.setCell ⟨bb,0,none⟩ (.int .i64 (dY ns[k].kind p q).1.1)).setCell ⟨bb,1,none⟩ (.int .i64 (dY ns[k].kind p q).1.2)):=by
         have h0:wr.heap.size<=bb:=by simp at hNb;omega
         exact(((((Below.refl _ _).alloc (Nat.le_refl _) _).drew.trans (hw5.toBelow.mono (by simp))).setCell h0 _).setCell h0 _)
        have n0:((w5.setCell ⟨bb,0,none⟩ (.int .i64 (dY ns[k].kind p q).1.1)).setCell ⟨bb,1,none⟩ (.int .i64 (dY ns[k].kind p q).1.2)).cell? ⟨bb,0,none⟩=some (.int .i64 (dY ns[k].kind p q).1.1):=by go_simp
        have n1:((w5.setCell ⟨bb,0,none⟩ (.int .i64 (dY ns[k].kind p q).1.1)).setCell ⟨bb,1,none⟩ (.int .i64 (dY ns[k].kind p q).1.2)).cell? ⟨bb,1,none⟩=some (.int .i64 (dY ns[k].kind p q).1.2):=by go_simp
        have hbb:wr.heap.size<=bb:=by simp at hNb;omega
        have Ai:bb<((w5.setCell ⟨bb,0,none⟩ (.int .i64 (dY ns[k].kind p q).1.1)).setCell ⟨bb,1,none⟩ (.int .i64 (dY ns[k].kind p q).1.2)).heap.size:=by simpa using m2
        generalize(w5.setCell ⟨bb,0,none⟩ (.int .i64 (dY ns[k].kind p q).1.1)).setCell ⟨bb,1,none⟩ (.int .i64 (dY ns[k].kind p q).1.2)=w6 at hb6 n0 n1 Ai
        obtain⟨hc6,hf6,hs6⟩:=bH hb6
        have q0:=hc6 w.heap.size 0 hsz
        have q1:=hc6 w.heap.size 1 hsz
        rw[r0]at q0
        rw[r1]at q1
        have uy:w.heap.size<w6.heap.size:=by omega
        clear hw4 hb4 aI hNb hw5 hb5 m0 m1 m2 hx hb3
        cases hj2:(dY ns[k].kind p q).2
        ·have HT:Hid (aS (b_ L) ns=none):=HJ.out.1.2 (by rw[<-HJ.out.2,if_neg (by simp[hj2])])
         clear HJ hj2
         go_wp2
         refine bodyPost_ret (v:=.tuple #[.agg #[.int .i64 0,.int .i64 0],.bool false]) (by simp[results,Tryz.results81,go_sem,uy,q0,q1]) rfl ⟨(0,0),by rw[HT.out];rfl,by rw[HT.out];simp,?_⟩
         (repeat(first|(with_reducible refine Below.alloc ?_ ?_ _;rotate_left;(first|omega|(simp;done)|(simp;omega)))|(with_reducible refine Below.setCell ?_ ?_ _;rotate_left;(first|exact Nat.le_refl _|(simp;done)|(simp;omega)))|(with_reducible refine Below.drew ?_)));exact hbel.trans (hb6.mono (by omega))
        ·have Aj:gJ ns[k].kind p q=some (dY ns[k].kind p q).1:=by rw[<-HJ.out.2,if_pos hj2]
         have hgo:=HJ.out.1.1 _ Aj
         have hxs:=Oe hpq.1 hpq.2 Aj
         clear HJ hj2 Aj
         generalize(dY ns[k].kind p q).1=x at *
         have e6:0<=(st0.length:Int)/\(st0.length:Int)<=(cp:Int):=by omega
         have hbg:¬bb=g:=by omega
         have hown6:w6.ownsRow (w.heap.size+1) 132 2 (.slice (some ⟨g,0,none⟩) st0.length cp) st0.length (st0.flatMap jX):=by
          have h0:=uh (bW hb6 hown0) st0.length (by omega);rw[List.flatMap_append,List.take_left' (by have:=flat_length rY st0;omega)]at h0;exact h0
         go_wp2_with fail
         refine bC (C:=ah ((λj=>j=g)) _) 2 [0,1,2,3,4,5,6,7] (by kernel_rfl) (by kernel_rfl) (ah.grows _ _) (ah.refl _ _) ?_
         iterate 4 (apply fF rfl rfl rfl;(focus intro u hc' hf';(try simp only[World.size_drew]at hc' hf');go_simp<;>rfl);intro K hK;go_simp;apply hK;clear hK K)
         refine qK rfl rfl rfl (λK hK=>?_)
         apply Exists.intro
         refine⟨λw' hw'=>?_,?_⟩
         ·obtain⟨vI,hf9⟩:=hw'.cell
          have hq:=vI bb 0 (by simp;exact Ai) hbg
          have hq1:=vI bb 1 (by simp;exact Ai) hbg
          go_simp
          rfl
         go_simp
         refine hK _ _ _ ?_
         clear hK K
         refine fG rfl rfl rfl (ah.grows _ _) (ah.refl _ _) (λb=>.slice (some ⟨b,0,none⟩) 1 1) (λK hK=>?_)
         apply Exists.intro
         refine⟨λw' hw'=>?_,λb7 w7 hw7 hb7 aI hNb hnb=>?_⟩
         ·go_simp
          rfl
         go_simp
         refine hK _ _ _ ?_
         clear hK K
         refine zZ rfl rfl rfl hw7 _ _ 190 rfl (w.heap.size+1) 132 i0 2 Tryz.underlying190 hi hz1 g st0.length cp (st0.flatMap jX) rfl (by simp;omega) rfl ⟨b7,0,none⟩ 1 1 [.int .i64 x.1,.int .i64 x.2] rfl rfl ?c1 (by omega) ?c2 ?_
         case c1=>intro u hu;simp at hu;rcases hu with rfl|rfl<;>rfl
         case c2 =>
          intro w8 hw8 hb8
          refine⟨bW hb8 (bW hb7 hown6.drew),?_⟩
          obtain⟨m0,m1,m2⟩:=made_cell ((hb8.block b7 (made_cell aI).2.2).trans aI)
          intro j u hj
          match j,hj with
          | 0,hj=>simp at hj;subst hj;simp[Addr.add,m0]
          | 1,hj=>simp at hj;subst hj;simp[Addr.add,m0]
         intro K hK w8 w9 hw8 hb8 g_ iK eu
         go_simp
         refine hK _ _ _ ?_
         clear hK K
         iterate 1 (apply fF rfl rfl rfl;(focus intro u hc' hf';(try simp only[World.size_drew]at hc' hf');go_simp<;>rfl);intro K hK;go_simp;apply hK;clear hK K)
         refine aK ?_
         have bG:Below (w.heap.size+1) wr w9:=(((hb6.mono (by omega)).drew.trans (hb7.mono (by simp;omega))).trans (hb8.mono (by have:=hb7.size;simp at this;omega))).grown iK (by have:=hb7.size;have:=hb8.size;simp at *;omega) (λj hj=>by cases hj;omega)
         have uj:=acJ hst hgo hxs bG g_
         clear hst hgo hxs bG g_ iK eu hb8 hw8 hb7 hw7 hown6 hown0
         go_wp2
         go_roundw
         case rel=>exact⟨k+1,_,by omega,by go_num,uj⟩
         case measure=>simp[intOf];omega
     ·have HT:Hid (aS (b_ L) ns=none):=(show aS (b_ L) ns=none by
       unfold aS;rw[if_pos hl,hgo0.out,hdrop,UF hk1 hval])
      have hvv:(ns[k].value != 0)=true\/((ns[k].value != 0)=false/\(!ns[k].name.toList.isEmpty)=true):=by
       by_cases h0:ns[k].value=0
       ·exact .inr ⟨by simp[h0],by simpa using λh=>hval ⟨h0,(toList_nil_iff_emptyBytes _).1 h⟩⟩
       ·exact .inl (by simp[h0])
      clear hval hdrop hgo0 hk1 hst
      rcases hkk with gk|⟨gk,yS⟩<;>rcases hvv with gv|⟨gv,gv'⟩
      all_goals
       go_wp2
       refine bodyPost_ret (v:=.tuple #[.agg #[.int .i64 0,.int .i64 0],.bool false]) (by simp[results,Tryz.results81,go_sem,hsz,r0,r1]) rfl ⟨(0,0),by rw[HT.out];rfl,by rw[HT.out];simp,?_⟩
       (repeat(first|(with_reducible refine Below.alloc ?_ ?_ _;rotate_left;(first|omega|(simp;done)|(simp;omega)))|(with_reducible refine Below.setCell ?_ ?_ _;rotate_left;(first|exact Nat.le_refl _|(simp;done)|(simp;omega)))|(with_reducible refine Below.drew ?_)));exact hbel
    ·have g15:(ns[k].kind != 15)=true:=by simp;omega
     have g16:(ns[k].kind != 16)=true:=by simp;omega
     have htr:=ht.keep hbel
     cases hok:(jE L ns[k]).2
     ·have HT:Hid (aS (b_ L) ns=none):=(show aS (b_ L) ns=none by
       unfold aS;rw[if_pos hl,hst.2.1.out,List.drop_eq_getElem_cons hlt,IZ hk1 (by simp[b_,hok])])
      have yT:=Lib.hid hok
      clear hok hk1
      go_wp2_with (go_at_call 139;refine(FB ns[k] L bc _ (htr.keep ((Below.refl _ _).alloc (Nat.le_refl _) _)) hnm).mono ?_;rintro e w2⟨rfl,hb2⟩;rw[yT.out];obtain⟨hc2,hf2,hs2⟩:=bH hb2;have q0:=ak hb2 (jy r0 _);have q1:=ak hb2 (jy r1 _);simp only[World.size_alloc]at hs2 hb2;have hz2:w.heap.size<w2.heap.size:=by omega)
      refine bodyPost_ret (v:=.tuple #[.agg #[.int .i64 0,.int .i64 0],.bool false]) (by simp[results,Tryz.results81,go_sem,hz2,q0,q1]) rfl ⟨(0,0),by rw[HT.out];rfl,by rw[HT.out];simp,?_⟩
      (repeat(first|(with_reducible refine Below.alloc ?_ ?_ _;rotate_left;(first|omega|(simp;done)|(simp;omega)))|(with_reducible refine Below.setCell ?_ ?_ _;rotate_left;(first|exact Nat.le_refl _|(simp;done)|(simp;omega)))|(with_reducible refine Below.drew ?_)));exact(hbel.alloc (by omega) _).trans (hb2.mono (by omega))
     ·have hlf:b_ L ns[k]=some (jE L ns[k]).1:=by simp[b_,hok]
      have hx:=yQ _ _ hlf
      have hgo:Hid (bU (b_ L) ns []=bU (b_ L) (ns.drop (k+1)) ((jE L ns[k]).1::st.reverse)):=(show bU (b_ L) ns []=_ by
       rw[hst.2.1.out,List.drop_eq_getElem_cons hlt,IQ hk1 hlf])
      have yT:=Lib.hid hok
      clear hok hk1 hlf
      obtain⟨x,hxe⟩:∃x,(jE L ns[k]).1=x:=⟨_,rfl⟩
      rw[hxe]at hx hgo
      have HX:=Lib.hid hxe
      clear hxe
      have hown0:=hst.1.1
      have Fj:=hst.2.2.2.1
      go_wp2_with (first|(go_at_call 139;refine(FB ns[k] L bc _ (htr.keep ((Below.refl _ _).alloc (Nat.le_refl _) _)) hnm).mono ?_;rintro e w2⟨rfl,hb2⟩;rw[yT.out,HX.out];have hown2:=bW hb2 (hown0.alloc _);have OY:=hb2.size;simp only[World.size_alloc]at OY)|(at_builtin;refine wpList_append_own _ rfl _ _ 190 rfl (w.heap.size+1) 132 i0 _ 2 16 Tryz.underlying190 hi hz0 hz1 hz2 rfl (by decide) _ _ _ rfl ((hown2.alloc _).alloc _) ⟨w2.heap.size+1,0,none⟩ 1 1 [.int .i64 x.1,.int .i64 x.2] rfl rfl ?c1 ?c2 ?c3 ?c4 ?c5 ?_))
      case c1 =>
       intro j u hj
       match j,hj with
       | 0,hj=>simp at hj;subst hj;simp[Addr.add]
       | 1,hj=>simp at hj;subst hj;simp[Addr.add]
      case c2=>intro u hu;simp at hu;rcases hu with rfl|rfl<;>rfl
      case c3=>unfold maxLen;omega
      case c4=>omega
      case c5=>simp;omega
      intro v' w3 hown3 hgrow _
      have hst3:=acI hst hgo hx hb2 hown3 hgrow
      clear hown3 hgrow hown2 hown0 hb2 hst hgo
      go_wp2
      go_roundw
      case rel=>exact⟨k+1,_,by omega,by go_num,hst3⟩
      case measure=>simp[intOf];omega
   ·have hkn:k=ns.length:=by omega
    subst hkn
    have hne:st≠[]:=hst.2.2.2.2.resolve_left (by omega)
    obtain⟨x,st1,rfl⟩:=List.exists_cons_of_ne_nil hne
    obtain⟨g,cp,rfl,hgc,hgm,hgB,hgs⟩:=ug hst.1.1 (by simp)
    have d0:=gQ rY hst.1.1 0 0 (by simp) (by omega)
    have d1:=gQ rY hst.1.1 0 1 (by simp) (by omega)
    simp[jX]at d0 d1
    have hgo:=hst.2.1.out
    rw[List.drop_length]at hgo
    clear hne hat hst
    rcases st1 with _|⟨y,st1⟩
    ·have HT:Hid (aS (b_ L) ns=some x):=(show aS (b_ L) ns=some x by
      unfold aS;rw[if_pos hl,hgo];rfl)
     clear hgo
     go_wp2
     refine bodyPost_ret (v:=.tuple #[.agg #[.int .i64 x.1,.int .i64 x.2],.bool true]) (by simp[results,Tryz.results81,go_sem,hsz,r0,r1,Ws,Wu]) rfl ⟨x,by rw[HT.out];rfl,by rw[HT.out];simp,?_⟩
     (repeat(first|(with_reducible refine Below.alloc ?_ ?_ _;rotate_left;(first|omega|(simp;done)|(simp;omega)))|(with_reducible refine Below.setCell ?_ ?_ _;rotate_left;(first|exact Nat.le_refl _|(simp;done)|(simp;omega)))|(with_reducible refine Below.drew ?_)));exact hbel
    ·have HT:Hid (aS (b_ L) ns=none):=(show aS (b_ L) ns=none by
      unfold aS;rw[if_pos hl,hgo];have e:(x::y::st1).reverse=st1.reverse++[y,x]:=by simp
      rw[e];rcases st1.reverse with _|⟨a,_|⟨b,r⟩⟩<;>rfl)
     clear hgo
     go_wp2
     refine bodyPost_ret (v:=.tuple #[.agg #[.int .i64 x.1,.int .i64 x.2],.bool false]) (by simp[results,Tryz.results81,go_sem,hsz,r0,r1,Ws,Wu];omega) rfl ⟨x,by rw[HT.out];rfl,by rw[HT.out];simp,?_⟩
     (repeat(first|(with_reducible refine Below.alloc ?_ ?_ _;rotate_left;(first|omega|(simp;done)|(simp;omega)))|(with_reducible refine Below.setCell ?_ ?_ _;rotate_left;(first|exact Nat.le_refl _|(simp;done)|(simp;omega)))|(with_reducible refine Below.drew ?_)));exact hbel
 ·have g1:inB ns.length 1 400=false:=by simp[inB];omega
  have HT:=Lib.hid (show aS (b_ L) ns=none by unfold aS;rw[if_neg hl]);go_enter Tryz.func81,Tryz.ntmps81;go_wp2_with (go_at_call 71;refine(pV _ _ _ _).mono ?_;rintro e w1⟨rfl,rfl⟩)
  refine bodyPost_ret (v:=.tuple #[.agg #[.int .i64 0,.int .i64 0],.bool false]) (by simp[results,Tryz.results81,go_sem]) rfl ⟨(0,0),by rw[HT.out];rfl,by rw[HT.out];simp,?_⟩;repeat(first|exact Below.refl _ _|with_reducible refine Below.drew ?_|refine Below.alloc ?_ (by simp<;>omega) _)
end Go.Proofs.YtikgblkfmpecfaaGreatDoor
