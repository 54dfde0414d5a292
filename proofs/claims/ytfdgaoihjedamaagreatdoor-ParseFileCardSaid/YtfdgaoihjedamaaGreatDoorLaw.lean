import Derived.Shelf.Strings.Builder1
import Derived.Shelf.Strings.Trim
import Derived.Shelf.Small.Utf8
import Derived.Shelf.Small.Bits
import Derived.Shelf.Small.Strs
import Derived.Shelf.Small.Wraps
import Derived.Shelf.Strings.BuilderF
import Derived.Shelf.Strings.BuilderK
import Derived.Shelf.Strings.Search1
import Derived.Shelf.Strings.Search2
import Derived.Shelf.Strings.Search3
import Derived.Shelf.LaysM
import Derived.Shelf.Strings.Shaped
import Derived.Shelf.Strings.Prefix
import Derived.Shelf.Strings.Runes
import Derived.Shelf.Strings.AsciiSet
import Derived.Shelf.Unicode.DecodeSlow
import Derived.Test.YtfdgaoihjedamaaGreatDoorProg
import Derived.Test.YtfdgaoihjedamaaGreatDoorLav
import Derived.Test.YtfdgaoihjedamaaGreatDoorLai
import Derived.Test.YtfdgaoihjedamaaGreatDoorLah
import Derived.Test.YtfdgaoihjedamaaGreatDoorLexR
import Derived.Test.YtfdgaoihjedamaaGreatDoorLag
import Derived.Test.YtfdgaoihjedamaaGreatDoorLexA
set_option linter.all false
set_option maxHeartbeats 4000000
set_option maxRecDepth 10000
namespace Go.Proofs
open Go.Shelf
def Tryz.lays169_ren : Go.Shelf.Ren:=⟨fun|169=>106|n=>n,fun|70=>175|9=>9|0=>0|72=>178|37=>176|127=>195|3=>3|5=>5|n=>n,fun|n=>n⟩
theorem Tryz.lays169 : Go.Proofs.Lays.n169 Tryz.prog Tryz.lays169_ren:={
 mixed:=by kernel_rfl
 f169:=Tryz.func106.trans (congrArg some (by kernel_rfl))
 t0:=Tryz.underlying0
 a0:=Tryz.isAgg0
 z0:=Tryz.sizeOf0
 v0:=Tryz.zeroValue0
 t3:=Tryz.underlying3
 a3:=Tryz.isAgg3
 z3:=Tryz.sizeOf3
 v3:=Tryz.zeroValue3
 t9:=Tryz.underlying9
 a9:=Tryz.isAgg9
 z9:=Tryz.sizeOf9
 v9:=Tryz.zeroValue9
 t37:=Tryz.underlying176
 a37:=Tryz.isAgg176
 z37:=Tryz.sizeOf176
 v37:=Tryz.zeroValue176
 t70:=Tryz.underlying175
 a70:=Tryz.isAgg175
 z70:=Tryz.sizeOf175
 v70:=Tryz.zeroValue175
 t72:=Tryz.underlying178
 a72:=Tryz.isAgg178
 z72:=Tryz.sizeOf178
 v72:=Tryz.zeroValue178
 t127:=Tryz.underlying195
 a127:=Tryz.isAgg195
 z127:=Tryz.sizeOf195
 v127:=Tryz.zeroValue195 }
theorem Tryz.Builder_Extra_169 : Builder.Extra Tryz.prog Tryz.lays169_ren:={
 sizeBuilder:=by kernel_rfl
 liesBuilder:=by kernel_rfl
 t5:=Tryz.underlying5
 a5:=Tryz.isAgg5
 z5:=Tryz.sizeOf5
 v5:=Tryz.zeroValue5
 infoByte:=by kernel_rfl
 cellsByte:=by kernel_rfl
 sizeByte:=by kernel_rfl
 neB5:=by decide }
def Tryz.lays161_ren : Go.Shelf.Ren:=⟨fun|161=>105|231=>126|227=>127|233=>128|235=>129|228=>142|197=>143|151=>144|260=>158|152=>159|137=>90|119=>168|224=>140|225=>139|217=>108|266=>131|n=>n,fun|9=>9|4=>4|3=>3|5=>5|117=>191|116=>190|0=>0|124=>194|105=>203|21=>21|119=>224|46=>172|139=>227|138=>226|n=>n,fun|3=>2|4=>3|n=>n⟩
theorem Tryz.lays161 : Go.Proofs.Lays.n161 Tryz.prog Tryz.lays161_ren:={
 mixed:=by kernel_rfl
 f119:=Tryz.func168.trans (congrArg some (by kernel_rfl))
 f137:=Tryz.func90.trans (congrArg some (by kernel_rfl))
 f151:=Tryz.func144.trans (congrArg some (by kernel_rfl))
 f152:=Tryz.func159.trans (congrArg some (by kernel_rfl))
 f161:=Tryz.func105.trans (congrArg some (by kernel_rfl))
 f197:=Tryz.func143.trans (congrArg some (by kernel_rfl))
 f217:=Tryz.func108.trans (congrArg some (by kernel_rfl))
 f224:=Tryz.func140.trans (congrArg some (by kernel_rfl))
 f225:=Tryz.func139.trans (congrArg some (by kernel_rfl))
 f227:=Tryz.func127.trans (congrArg some (by kernel_rfl))
 f228:=Tryz.func142.trans (congrArg some (by kernel_rfl))
 f231:=Tryz.func126.trans (congrArg some (by kernel_rfl))
 f233:=Tryz.func128.trans (congrArg some (by kernel_rfl))
 f235:=Tryz.func129.trans (congrArg some (by kernel_rfl))
 f260:=Tryz.func158.trans (congrArg some (by kernel_rfl))
 f266:=Tryz.func131.trans (congrArg some (by kernel_rfl))
 t0:=Tryz.underlying0
 a0:=Tryz.isAgg0
 z0:=Tryz.sizeOf0
 v0:=Tryz.zeroValue0
 t3:=Tryz.underlying3
 a3:=Tryz.isAgg3
 z3:=Tryz.sizeOf3
 v3:=Tryz.zeroValue3
 t4:=Tryz.underlying4
 a4:=Tryz.isAgg4
 z4:=Tryz.sizeOf4
 v4:=Tryz.zeroValue4
 t5:=Tryz.underlying5
 a5:=Tryz.isAgg5
 z5:=Tryz.sizeOf5
 v5:=Tryz.zeroValue5
 t9:=Tryz.underlying9
 a9:=Tryz.isAgg9
 z9:=Tryz.sizeOf9
 v9:=Tryz.zeroValue9
 t21:=Tryz.underlying21
 a21:=Tryz.isAgg21
 z21:=Tryz.sizeOf21
 v21:=Tryz.zeroValue21
 t46:=Tryz.underlying172
 a46:=Tryz.isAgg172
 z46:=Tryz.sizeOf172
 v46:=Tryz.zeroValue172
 t105:=Tryz.underlying203
 a105:=Tryz.isAgg203
 z105:=Tryz.sizeOf203
 v105:=Tryz.zeroValue203
 t116:=Tryz.underlying190
 a116:=Tryz.isAgg190
 z116:=Tryz.sizeOf190
 t117:=Tryz.underlying191
 a117:=Tryz.isAgg191
 z117:=Tryz.sizeOf191
 v117:=Tryz.zeroValue191
 t119:=Tryz.underlying224
 a119:=Tryz.isAgg224
 z119:=Tryz.sizeOf224
 t124:=Tryz.underlying194
 a124:=Tryz.isAgg194
 z124:=Tryz.sizeOf194
 v124:=Tryz.zeroValue194
 t138:=Tryz.underlying226
 a138:=Tryz.isAgg226
 z138:=Tryz.sizeOf226
 v138:=Tryz.zeroValue226
 t139:=Tryz.underlying227
 a139:=Tryz.isAgg227
 z139:=Tryz.sizeOf227
 v139:=Tryz.zeroValue227
 g3:=by kernel_rfl
 g4:=by kernel_rfl }
open Go.RowKit in
theorem Tryz.strings_TrimLeft_one (s:ByteArray)(c:UInt8)(hc:c.toNat < 128)(w:World) :
  Calls Tryz.prog 105 #[.string s,.string ⟨#[c]⟩] w fun e w'=>e=.returned (.string ⟨(Lib.trimLeftB s.data.toList c).toArray⟩)∧w'=w:=Any.strings_TrimLeft_one Tryz.lays161 s c hc w
def Tryz.lays137_ren : Go.Shelf.Ren:=⟨fun|137=>90|217=>108|266=>131|n=>n,fun|9=>9|5=>5|3=>3|n=>n,fun|n=>n⟩
theorem Tryz.lays137 : Go.Proofs.Lays.n137 Tryz.prog Tryz.lays137_ren:={
 mixed:=by kernel_rfl
 f137:=Tryz.func90.trans (congrArg some (by kernel_rfl))
 f217:=Tryz.func108.trans (congrArg some (by kernel_rfl))
 f266:=Tryz.func131.trans (congrArg some (by kernel_rfl))
 t3:=Tryz.underlying3
 a3:=Tryz.isAgg3
 z3:=Tryz.sizeOf3
 v3:=Tryz.zeroValue3
 t5:=Tryz.underlying5
 a5:=Tryz.isAgg5
 z5:=Tryz.sizeOf5
 v5:=Tryz.zeroValue5
 t9:=Tryz.underlying9
 a9:=Tryz.isAgg9
 z9:=Tryz.sizeOf9
 v9:=Tryz.zeroValue9 }
open Go.RowKit in
theorem Tryz.strings_IndexByte (s:ByteArray)(c:Int)(w:World) :
  Calls Tryz.prog 90 #[.string s,.int .u8 c] w fun e w'=>e=.returned (.int .i64 (Lib.indexByte s.data.toList c.toNat.toUInt8))∧w'=w:=Any.strings_IndexByte Tryz.lays137 s c w
open Go.RowKit in
theorem Tryz.Builder_String_any_k (B b:Nat)(l:List UInt8)(w:World)(h:Lib.IsBuilderF 178 5 B b (Lib.byteCells l) w)(hBw:B≤w.heap.size) :
  Calls Tryz.prog 106 #[.pointer (some ⟨b,0,none⟩)] w fun e w'=>e=.returned (.string ⟨l.toArray⟩)∧(Lib.IsBuilderF 178 5 B b (Lib.byteCells l) w'∧Below B w w'∧Lib.OthersKept 5 (some b) w w'):=Any.Builder_String_any_k Tryz.lays169 Tryz.Builder_Extra_169 B b l w h hBw
def Tryz.lays143_ren : Go.Shelf.Ren:=⟨fun|143=>104|219=>125|217=>108|225=>139|224=>140|267=>141|266=>131|314=>157|n=>n,fun|9=>9|3=>3|4=>4|5=>5|46=>172|146=>215|51=>44|n=>n,fun|1=>1|n=>n⟩
theorem Tryz.lays143 : Go.Proofs.Lays.n143 Tryz.prog Tryz.lays143_ren:={
 mixed:=by kernel_rfl
 f143:=Tryz.func104.trans (congrArg some (by kernel_rfl))
 f217:=Tryz.func108.trans (congrArg some (by kernel_rfl))
 f219:=Tryz.func125.trans (congrArg some (by kernel_rfl))
 f224:=Tryz.func140.trans (congrArg some (by kernel_rfl))
 f225:=Tryz.func139.trans (congrArg some (by kernel_rfl))
 f266:=Tryz.func131.trans (congrArg some (by kernel_rfl))
 f267:=Tryz.func141.trans (congrArg some (by kernel_rfl))
 f314:=Tryz.func157.trans (congrArg some (by kernel_rfl))
 t3:=Tryz.underlying3
 a3:=Tryz.isAgg3
 z3:=Tryz.sizeOf3
 v3:=Tryz.zeroValue3
 t4:=Tryz.underlying4
 a4:=Tryz.isAgg4
 z4:=Tryz.sizeOf4
 v4:=Tryz.zeroValue4
 t5:=Tryz.underlying5
 a5:=Tryz.isAgg5
 z5:=Tryz.sizeOf5
 v5:=Tryz.zeroValue5
 t9:=Tryz.underlying9
 a9:=Tryz.isAgg9
 z9:=Tryz.sizeOf9
 v9:=Tryz.zeroValue9
 t46:=Tryz.underlying172
 a46:=Tryz.isAgg172
 z46:=Tryz.sizeOf172
 v46:=Tryz.zeroValue172
 t51:=Tryz.underlying44
 a51:=Tryz.isAgg44
 z51:=Tryz.sizeOf44
 v51:=Tryz.zeroValue44
 t146:=Tryz.underlying215
 a146:=Tryz.isAgg215
 z146:=Tryz.sizeOf215
 v146:=Tryz.zeroValue215
 g1:=by kernel_rfl }
open Go.RowKit Go.Lib in
theorem Tryz.strings_Index (s sub:ByteArray)(m:Int)(w:World)(hs:s.size < 4294967281)(hm:w.cell? ⟨1,0,none⟩=some (.int .i64 m)) :
  Calls Tryz.prog 104 #[.string s,.string sub] w fun e w'=>e=.returned (.int .i64 (Lib.index s.data.toList sub.data.toList))∧w'=w:=Any.strings_Index Tryz.lays143 s sub m w hs hm
end Go.Proofs
namespace Go.Ev
open Go.Proofs
theorem reads_con {S:Sto}{l:List Value}{args:Array Value}(h:Reads S (l.map T.con) args):args=l.toArray:=by
 obtain⟨h1,h2⟩:=h
 rw [List.length_map] at h1
 refine Array.ext (by simpa using h1) fun i h3 h4=>?_
 have hl:i < l.length:=by omega
 have:=h2 i (.con l[i]) args[i] (by rw [List.getElem?_map,List.getElem?_eq_getElem hl];rfl) (by rw [Array.getElem?_eq_getElem h3])
 generalize args[i]=x at this
 cases this
 simp
theorem ok_shelf {P:Program}{q:FuncId}{l:List Value}{f:Bool}{v:Value}{t:T}(hq:Callable P q)(hr:∀S,RdT S t v)
  (h:∀(S:Sto) (w:World),GL S→(∀b o c,S b o=some c→w.cell? ⟨b,o,none⟩=some c)→Calls P q l.toArray w fun e w'=>e=.returned v∧w'=w):Ok P q (l.map T.con) f t:=by
 refine⟨hq,fun S w args hS hgl hargs=>?_⟩
 rw [reads_con hargs]
 refine(h S w hgl hS).mono fun e w' he=>?_
 obtain⟨rfl,rfl⟩:=he
 exact⟨v,fun _ _=>none,rfl,RowKit.Below.refl _ _,(fun _ _ _ hc=>by cases hc),hr _⟩
theorem IndexByte_ok (s:ByteArray)(b:UInt8):Ok Tryz.prog 90 [tS9 s,tb b] true (.con (.int .i64 (Lib.indexByte s.data.toList b))):=by
 have e:(b.toNat:Int).toNat.toUInt8=b:=by simp
 refine ok_shelf (l:=[.string s,.int .u8 b.toNat]) ⟨_,Tryz.func90,rfl,rfl⟩ (fun S=>RdT.con _ rfl) (fun S w _ _=>?_)
 have:=Tryz.strings_IndexByte s b.toNat w
 rw [e] at this
 exact this
theorem Index_ok (s u:ByteArray)(hs:s.size < 4294967281):Ok Tryz.prog 104 [tS9 s,tS9 u] true (.con (.int .i64 (Lib.index s.data.toList u.data.toList))):=by
 refine ok_shelf (l:=[.string s,.string u]) ⟨_,Tryz.func104,rfl,rfl⟩ (fun S=>RdT.con _ rfl) (fun S w hg hS=>?_)
 obtain⟨m,hm⟩:∃m,S 1 0=some (.int .i64 m):=hg.1
 exact Tryz.strings_Index s u m w hs (hS _ _ _ hm)
theorem TrimLeft1_ok (s:ByteArray)(c:UInt8)(hc:c.toNat < 128):Ok Tryz.prog 105 [tS9 s,tS9 ⟨#[c]⟩] true (tS9 ⟨(Lib.trimLeftB s.data.toList c).toArray⟩):=by
 refine ok_shelf (l:=[.string s,.string ⟨#[c]⟩]) ⟨_,Tryz.func105,rfl,rfl⟩ (fun S=>RdT.con _ rfl) (fun S w _ _=>?_)
 exact Tryz.strings_TrimLeft_one s c hc w
def decF (v:Nat)(l:List UInt8):Nat:=l.foldl (fun v b=>10 * v+(b.toNat - 48)) v
theorem decF_ge : ∀(l:List UInt8) (v:Nat),v * 10 ^ l.length≤decF v l
 | [],v=>by simp [decF]
 |b :: r,v=>by
  have:=decF_ge r (10 * v+(b.toNat - 48))
  show _≤decF (10 * v+(b.toNat - 48)) r
  rw [List.length_cons,Nat.pow_succ]
  refine Nat.le_trans ?_ this
  rw [Nat.mul_comm (10 ^ r.length) 10,← Nat.mul_assoc]
  exact Nat.mul_le_mul_right _ (by omega)
theorem decF_lt : ∀(l:List UInt8) (v:Nat),(∀b ∈ l,isDig b=true)→decF v l < (v+1) * 10 ^ l.length
 | [],v,_=>by simp [decF]
 |b :: r,v,h=>by
  have hb:=h b (List.mem_cons_self ..)
  unfold isDig at hb
  simp only [Bool.and_eq_true,decide_eq_true_eq] at hb
  have:=decF_lt r (10 * v+(b.toNat - 48)) (fun c hc=>h c (List.mem_cons_of_mem _ hc))
  show decF (10 * v+(b.toNat - 48)) r < _
  rw [List.length_cons,Nat.pow_succ]
  refine Nat.lt_of_lt_of_le this ?_
  rw [Nat.mul_comm (10 ^ r.length) 10,← Nat.mul_assoc]
  exact Nat.mul_le_mul_right _ (by omega)
theorem decV_drop : ∀(l:List UInt8),decV (Lib.trimLeftB l 48)=decV l
 | []=>rfl
 |b :: r=>by
  unfold Lib.trimLeftB
  rw [List.dropWhile_cons]
  split
  ·rename_i hb
   obtain rfl:b=48:=by simpa using hb
   have:=decV_drop r
   unfold Lib.trimLeftB at this
   rw [this];rfl
  ·rfl
theorem drop_head (l:List UInt8):Lib.trimLeftB l 48=[]∨∃b r,Lib.trimLeftB l 48=b :: r∧b≠48:=by
 unfold Lib.trimLeftB
 induction l with
 |nil=>exact .inl rfl
 |cons b r ih=>
  rw [List.dropWhile_cons]
  split
  ·exact ih
  ·rename_i hb
   exact .inr ⟨b,r,rfl,by simpa using hb⟩
theorem drop_mem {l:List UInt8}{b:UInt8}(h:b ∈ Lib.trimLeftB l 48):b ∈ l:=(List.dropWhile_sublist _).subset h
def kThou : List UInt8:=[49,48,48,48]
theorem large_law {l:List UInt8}(hd:∀b ∈ l,isDig b=true)(hz:l=[]∨∃b r,l=b :: r∧b≠48) :
  (4 < l.length→1000 < decV l)∧(l.length < 4→¬1000 < decV l)∧(l.length=4→(1000 < decV l↔l≠kThou)∧Op.bytesLess l kThou=false):=by
 have dg:∀b ∈ l,48≤b.toNat∧b.toNat≤57:=fun b hb=>by
  have:=hd b hb
  unfold isDig at this
  simpa using this
 refine⟨fun h=>?_,fun h=>?_,fun h=>?_⟩
 ·rcases hz with rfl|⟨b,r,rfl,hb⟩
  ·simp at h
  ·have h1:=decF_ge r (b.toNat - 48)
   have h2:=dg b (List.mem_cons_self ..)
   have h3:b.toNat≠48:=fun e=>hb (UInt8.toNat_inj.1 e)
   rw [List.length_cons] at h
   have h4:10 ^ 4≤10 ^ r.length:=Nat.pow_le_pow_right (by decide) (by omega)
   have h5:1 * 10 ^ r.length≤(b.toNat - 48) * 10 ^ r.length:=Nat.mul_le_mul_right _ (by omega)
   have h6:decV (b :: r)=decF (b.toNat - 48) r:=by show decF (10 * 0+(b.toNat - 48)) r=_;rw [Nat.mul_zero,Nat.zero_add]
   rw [h6]
   omega
 ·have h1:=decF_lt l 0 hd
  have h4:10 ^ l.length≤10 ^ 3:=Nat.pow_le_pow_right (by decide) (by omega)
  have h6:decV l=decF 0 l:=rfl
  rw [h6]
  omega
 ·match l,h with
  | [a,b,c,d],_=>
   obtain⟨ha,ha2⟩:=dg a (by simp)
   obtain⟨hb,hb2⟩:=dg b (by simp)
   obtain⟨hc,hc2⟩:=dg c (by simp)
   obtain⟨hd1,hd2⟩:=dg d (by simp)
   have hne:a.toNat≠48:=by
    rcases hz with e|⟨b',r',e,h9⟩
    ·cases e
    ·cases e;exact fun e=>h9 (UInt8.toNat_inj.1 e)
   have hv:decV [a,b,c,d]=1000 * (a.toNat - 48)+100 * (b.toNat - 48)+10 * (c.toNat - 48)+(d.toNat - 48):=by
    simp only [decV,List.foldl];omega
   refine⟨?_,?_⟩
   ·rw [hv]
    constructor
    ·intro h e
     unfold kThou at e
     simp at e
     obtain⟨rfl,rfl,rfl,rfl⟩:=e
     revert h;decide
    ·intro h
     by_cases h9:1000 < 1000 * (a.toNat - 48)+100 * (b.toNat - 48)+10 * (c.toNat - 48)+(d.toNat - 48)
     ·exact h9
     ·exfalso
      apply h
      have e1:a=49:=UInt8.toNat_inj.1 (by show a.toNat=49;omega)
      have e2:b=48:=UInt8.toNat_inj.1 (by show b.toNat=48;omega)
      have e3:c=48:=UInt8.toNat_inj.1 (by show c.toNat=48;omega)
      have e4:d=48:=UInt8.toNat_inj.1 (by show d.toNat=48;omega)
      rw [e1,e2,e3,e4];rfl
   ·unfold kThou
    have n1:¬a < 49:=fun h=>by have:a.toNat < 49:=h;omega
    have n2:¬b < 48:=fun h=>by have:b.toNat < 48:=h;omega
    have n3:¬c < 48:=fun h=>by have:c.toNat < 48:=h;omega
    have n4:¬d < 48:=fun h=>by have:d.toNat < 48:=h;omega
    simp [Op.bytesLess,n1,n2,n3,n4]
theorem large_ok (s:ByteArray)(hs:s.size≤1073741824)(hd:allDig s):Ok Tryz.prog 88 [tS9 s] true (.con (.bool (decide (1000 < decV (bs s))))):=by
 have hdl:∀b ∈ bs s,isDig b=true:=fun b hb=>by
  obtain⟨i,hi,rfl⟩:=List.mem_iff_getElem.1 hb
  have:=hd i (by rw [← bs_len];exact hi)
  unfold chr at this
  rw [List.getD,List.getElem?_eq_getElem hi] at this
  exact this
 have h1:=TrimLeft1_ok s 48 (by decide)
 have hbb:Lib.trimLeftB s.data.toList 48=Lib.trimLeftB (bs s) 48:=rfl
 rw [hbb] at h1
 obtain⟨a1,a2,a3⟩:=large_law (l:=Lib.trimLeftB (bs s) 48) (fun b hb=>hdl b (drop_mem hb)) (drop_head _)
 rw [← decV_drop]
 obtain⟨U,hU⟩:∃U:ByteArray,U=⟨(Lib.trimLeftB (bs s) 48).toArray⟩:=⟨_,rfl⟩
 have hl:(Lib.trimLeftB (bs s) 48).length=U.size:=by rw [hU];exact(List.size_toArray).symm
 have ht:Lib.trimLeftB (bs s) 48=U.toList:=by rw [hU,bq_data]
 have hle:U.size≤s.size:=by rw [← hl,← bs_len];exact(List.dropWhile_sublist _).length_le
 rw [← hU] at h1
 rw [ht] at a1 a2 a3 ⊢
 have hl2:U.toList.length=U.size:=by rw [← ht];exact hl
 rw [hl2] at a1 a2 a3
 refine ok_of_ev hC0 mix Tryz.func88 rfl rfl (by kernel_rfl) (zO rfl) ?_
 have hk:(⟨#[49,48,48,48]⟩:ByteArray).toList=kThou:=by rw [bq_data];rfl
 repeat'(first|(with_reducible first|(refine zz ?_;try intro K hK)|refine zI ?_|refine zt ?_|refine zf ?_)|((first|refine hK _ ?_|refine hK _ _ rfl ?_);clear hK K)|(guard_hyp hK;first|(refine zY ?zz ?_;case zz=>first|exact rfl|exact gJ)|refine fresh_n ?_|refine freshO_n ?_|refine zW ?_|(refine zQ (h1) ?_)|intro b0 hb)|((first|with_reducible refine zm ?_|guard_hyp hK);refine zY ?_ ?_;all_goals(intro hb;(try simp only [sn,sb] at hb);try exact ex0)))
 ·exact retb rfl rfl (decide_eq_true (a1 (by omega))).symm
 ·obtain⟨e1,e2⟩:=a3 (by omega)
  refine retb rfl rfl ?_
  show(!Op.bytesLess U.toList (⟨#[49,48,48,48]⟩:ByteArray).toList && !(U.toList == (⟨#[49,48,48,48]⟩:ByteArray).toList))=_
  rw [hk,e2,Bool.eq_iff_iff]
  simp [e1]
 ·exact retb rfl rfl (decide_eq_false (a2 (by omega))).symm
theorem ib_cons (b c:UInt8)(l:List UInt8):Lib.indexByte (b :: l) c=if b=c then 0 else if Lib.indexByte l c = -1 then -1 else Lib.indexByte l c+1:=by
 rw [Lib.indexByte]
 by_cases h:b=c
 ·simp [h]
 ·simp [h]
theorem ib_ge (l:List UInt8)(c:UInt8) : -1≤Lib.indexByte l c:=Lib.indexByte_ge l c
theorem ix_cons (b:UInt8)(l u:List UInt8):Lib.index (b :: l) u=if u.isPrefixOf (b :: l)=true then 0 else if Lib.index l u = -1 then -1 else Lib.index l u+1:=by
 rw [Lib.index]
 by_cases h:u.isPrefixOf (b :: l)=true
 ·simp [h]
 ·simp [h]
theorem ix_ge (l u:List UInt8) : -1≤Lib.index l u:=Lib.index_ge l u
theorem chr_n {s:ByteArray}{i:Nat}{b:UInt8}:chr s i=b↔(chr s i).toNat=b.toNat:=UInt8.toNat_inj.symm
theorem skipA_line (s:ByteArray)(h1:(chr s 1).toNat=47)(i:Nat)(hi:i≤s.size):skipA s i=if Lib.indexByte ((bs s).drop i) 10 = -1 then(s.size:Int) else i+Lib.indexByte ((bs s).drop i) 10:=by
 rw [skipA]
 by_cases hlt:i < s.size
 ·rw [dif_pos hlt,drop_at hlt,ib_cons]
  have hg:=ib_ge ((bs s).drop (i+1)) 10
  by_cases h2:(chr s i).toNat=10
  ·have h3:chr s i=10:=chr_n.2 h2
   rw [if_pos ⟨h1,h2⟩,if_pos h3,if_neg (by decide)];omega
  ·have h3:¬chr s i=10:=fun h=>h2 (by rw [h];rfl)
   rw [if_neg (fun h=>h2 h.2),if_neg (fun h=>absurd h.1 (by omega)),if_neg h3,skipA_line s h1 (i+1) hlt]
   by_cases h4:Lib.indexByte ((bs s).drop (i+1)) 10 = -1
   ·rw [if_pos h4,if_pos h4,if_pos rfl]
   ·rw [if_neg h4,if_neg h4,if_neg (by omega)];omega
 ·rw [dif_neg hlt,if_pos h1]
  have:(bs s).drop i=[]:=List.drop_eq_nil_of_le (by rw [bs_len];omega)
  rw [this];rfl
termination_by s.size - i
theorem pre_two (l:List UInt8)(b:UInt8):([42,47]:List UInt8).isPrefixOf (b :: l)=true↔b=42∧l.head?=some 47:=by
 cases l with
 |nil=>simp [List.isPrefixOf]
 |cons c r=>
  simp [List.isPrefixOf]
  constructor
  ·rintro⟨h,k⟩;exact⟨h.symm,k.symm⟩
  ·rintro⟨h,k⟩;exact⟨h.symm,k.symm⟩
theorem chr_head (s:ByteArray)(i:Nat):(chr s i).toNat=47↔((bs s).drop i).head?=some 47:=by
 rcases Nat.lt_or_ge i s.size with h|h
 ·rw [drop_at h,List.head?_cons]
  constructor
  ·intro h2
   have h3:chr s i=47:=chr_n.2 h2
   rw [h3]
  ·intro h2;rw [Option.some.inj h2];rfl
 ·rw [chr_end h,List.drop_eq_nil_of_le (by rw [bs_len];omega)]
  constructor
  ·intro h2;exact absurd h2 (by decide)
  ·intro h2;cases h2
theorem skipA_block (s:ByteArray)(h1:(chr s 1).toNat=42)(i:Nat)(hi:i≤s.size):skipA s i=if Lib.index ((bs s).drop i) [42,47] = -1 then -1 else i+Lib.index ((bs s).drop i) [42,47]+2:=by
 rw [skipA]
 by_cases hlt:i < s.size
 ·rw [dif_pos hlt,drop_at hlt,ix_cons,if_neg (fun h=>absurd h.1 (by omega))]
  have hg:=ix_ge ((bs s).drop (i+1)) [42,47]
  by_cases h2:(chr s i).toNat=42∧(chr s (i+1)).toNat=47
  ·have h3:([42,47]:List UInt8).isPrefixOf (chr s i :: (bs s).drop (i+1))=true:=(pre_two _ _).2 ⟨chr_n.2 h2.1,(chr_head s _).1 h2.2⟩
   rw [if_pos ⟨h1,h2⟩,if_pos h3,if_neg (by decide)];omega
  ·have h3:¬([42,47]:List UInt8).isPrefixOf (chr s i :: (bs s).drop (i+1))=true:=fun h=>by
    obtain⟨e1,e2⟩:=(pre_two _ _).1 h
    exact h2 ⟨by rw [e1];rfl,(chr_head s _).2 e2⟩
   rw [if_neg (fun h=>h2 h.2),if_neg h3,skipA_block s h1 (i+1) hlt]
   by_cases h4:Lib.index ((bs s).drop (i+1)) [42,47] = -1
   ·rw [if_pos h4,if_pos h4,if_pos rfl]
   ·rw [if_neg h4,if_neg h4,if_neg (by omega)];omega
 ·rw [dif_neg hlt,if_neg (by omega)]
  have:(bs s).drop i=[]:=List.drop_eq_nil_of_le (by rw [bs_len];omega)
  rw [this];rfl
termination_by s.size - i
theorem skipF_line (s:ByteArray)(h0:(chr s 0).toNat=47)(h1:(chr s 1).toNat=47):skipF s=if Lib.indexByte (bs s) 10 = -1 then(s.size:Int) else Lib.indexByte (bs s) 10:=by
 have l1:1 < s.size:=by
  rcases Nat.lt_or_ge 1 s.size with h|h
  ·exact h
  ·rw [chr_end h] at h1;exact absurd h1 (by decide)
 have e0:isBlk (chr s 0)=false:=by unfold isBlk;simp [h0]
 unfold skipF
 rw [if_neg (by rw [e0];decide),if_neg (fun h=>h.elim (fun h=>h h0) (fun h=>h.1 h1)),skipA_line s h1 2 l1]
 have hd:bs s=chr s 0 :: chr s 1 :: (bs s).drop 2:=by
  have:=drop_at (s:=s) (i:=0) (by omega)
  rw [List.drop_zero] at this
  rw [← drop_at l1];exact this
 have e1:Lib.indexByte (bs s) 10=if Lib.indexByte ((bs s).drop 2) 10 = -1 then -1 else Lib.indexByte ((bs s).drop 2) 10+2:=by
  have hg:=ib_ge ((bs s).drop 2) 10
  have n0:¬chr s 0=10:=fun h=>by rw [h] at h0;exact absurd h0 (by decide)
  have n1:¬chr s 1=10:=fun h=>by rw [h] at h1;exact absurd h1 (by decide)
  rw [hd,ib_cons,ib_cons,← hd,if_neg n0,if_neg n1]
  by_cases h4:Lib.indexByte ((bs s).drop 2) 10 = -1
  ·rw [if_pos h4,if_pos rfl,if_pos h4]
  ·rw [if_neg h4,if_neg (by omega),if_neg h4];omega
 rw [e1]
 have hg:=ib_ge ((bs s).drop 2) 10
 by_cases h4:Lib.indexByte ((bs s).drop 2) 10 = -1
 ·rw [if_pos h4,if_pos h4,if_pos rfl]
 ·rw [if_neg h4,if_neg h4,if_neg (by omega)];omega
theorem skipF_block (s:ByteArray)(h0:(chr s 0).toNat=47)(h1:(chr s 1).toNat=42):skipF s=if Lib.index ((bs s).drop 2) [42,47] = -1 then -1 else Lib.index ((bs s).drop 2) [42,47]+4:=by
 have l1:1 < s.size:=by
  rcases Nat.lt_or_ge 1 s.size with h|h
  ·exact h
  ·rw [chr_end h] at h1;exact absurd h1 (by decide)
 have e0:isBlk (chr s 0)=false:=by unfold isBlk;simp [h0]
 unfold skipF
 rw [if_neg (by rw [e0];decide),if_neg (fun h=>h.elim (fun h=>h h0) (fun h=>h.2 h1)),skipA_block s h1 2 l1]
 by_cases h4:Lib.index ((bs s).drop 2) [42,47] = -1
 ·rw [if_pos h4,if_pos h4]
 ·rw [if_neg h4,if_neg h4];omega
theorem bq_two (s:ByteArray)(a b:UInt8)(ha:a≠0)(hb:b≠0):preB s ⟨#[a,b]⟩=decide (chr s 0=a∧chr s 1=b):=by
 unfold preB
 rw [Bool.eq_iff_iff,Bool.and_eq_true,decide_eq_true_eq,decide_eq_true_eq,beq_iff_eq,bq_data,bq_data]
 have e1:(⟨#[a,b]⟩:ByteArray).size=2:=rfl
 rw [e1]
 have e2:(s.extract 0 2).data.toList=(bs s).take 2:=by
  have:=sub_bs s 0 2
  rw [List.drop_zero] at this
  exact this
 rw [e2]
 show 2≤s.size∧(bs s).take 2=[a,b]↔_
 rw [← bs_len]
 unfold chr
 match hq:bs s with
 | []=>simp;intro h;exact absurd h.symm ha
 | [x]=>simp;intro _ h;exact absurd h.symm hb
 |x :: y :: r=>simp
def blF (s:ByteArray)(a:Nat):Nat×Bool:=
 if h:a < s.size then
  if skipF (s.extract a s.size) < 0 then(a,false)
  else if h2:0 < skipF (s.extract a s.size) then blF s (a+(skipF (s.extract a s.size)).toNat)
  else(a,true)
 else(a,true)
termination_by s.size - a
decreasing_by have:=skipF (s.extract a s.size);omega
theorem blF_le (s:ByteArray)(a:Nat)(ha:a≤s.size):a≤(blF s a).1∧(blF s a).1≤s.size:=by
 rw [blF]
 split
 ·rename_i h
  split
  ·exact⟨Nat.le_refl _,ha⟩
  ·split
   ·rename_i h2
    have h3:=skipF_le (s:=s.extract a s.size) (by rw [ByteArray.size_extract];omega)
    rw [ByteArray.size_extract] at h3
    have:=blF_le s (a+(skipF (s.extract a s.size)).toNat) (by omega)
    omega
   ·exact⟨Nat.le_refl _,ha⟩
 ·exact⟨Nat.le_refl _,ha⟩
termination_by s.size - a
def lrV (s:ByteArray)(a l c:Nat):V:=.agg [.con (.string s),.con (.int .i64 a),.con (.int .i64 l),.con (.int .i64 c)]
def lrO (s:ByteArray)(a l c:Nat):OH:=[(0,⟨4,[lrV s a l c],0,true⟩)]
theorem lrV_flat (s:ByteArray)(a l c:Nat):(lrV s a l c).flat:=by
 intro v hv
 simp at hv
 rcases hv with rfl|rfl|rfl|rfl<;>trivial
theorem lr_one {s:ByteArray}{a l c:Nat}{oh:OH}:∀v ∈ [lrV s a l c],v.cl oh:=by
 intro v hv
 obtain rfl:=List.mem_singleton.1 hv
 exact(lrV_flat s a l c).cl oh
theorem lr_wf (s:ByteArray)(a l c:Nat):∀i o,oget (lrO s a l c) i=some o→o.ver=0∧o.live=true∧∀v ∈ o.el,v.cl (lrO s a l c):=by
 intro i o h
 obtain⟨rfl,rfl⟩:=oget_one h
 exact⟨rfl,rfl,lr_one⟩
theorem lr_po (s:ByteArray)(a l c a' l' c':Nat){nw:List Nat}:∀i o,oget (lrO s a' l' c') i=some o→(oget (lrO s a l c) i).isSome=true∨i ∈ nw:=by
 intro i o h
 obtain⟨rfl,rfl⟩:=oget_one h
 exact .inl rfl
theorem lr_after {s:ByteArray}{a l c a' l' c':Nat}{i:Nat}{o:Obj}(h:oget (lrO s a' l' c' ++ lrO s a l c) i=some o):i=0∧o=⟨4,[lrV s a' l' c'],0,true⟩:=by
 by_cases h0:i=0
 ·subst h0
  have e:oget (lrO s a' l' c' ++ lrO s a l c) 0=some ⟨4,[lrV s a' l' c'],0,true⟩:=rfl
  rw [e] at h
  exact⟨rfl,(Option.some.inj h).symm⟩
 ·rw [show lrO s a' l' c' ++ lrO s a l c=[(0,_),(0,_)] from rfl,oget,if_neg (Ne.symm h0),oget,if_neg (Ne.symm h0)] at h
  cases h
theorem lr_le (s:ByteArray)(a l c a' l' c':Nat):∀i o o',oget (lrO s a l c) i=some o→oget (lrO s a' l' c' ++ lrO s a l c) i=some o'→o'.ver=0→o'.live=true→o'.sz=o.sz∧o.el.length≤o'.el.length:=by
 intro i o o' h1 h2 h3 h4
 obtain⟨rfl,rfl⟩:=lr_after h2
 obtain⟨-,rfl⟩:=oget_one h1
 exact⟨rfl,Nat.le_refl _⟩
theorem lr_pin {t:St}{vs:List V}{s:ByteArray}{a l c a' l' c' np:Nat}{e:List V}(hs:oget t.oh 0=some ⟨4,e,0,true⟩)(hnp:0 < np)(hv:vs[0]?=some (.ref 0 0 0 0))(he:eget t.env 0=.ref 0 0 0 0) :
  ∀i o o',oget (lrO s a l c) i=some o→oget (lrO s a' l' c' ++ lrO s a l c) i=some o'→o'.ver=0→PinG np vs t i o:=by
 intro i o o' h1 h2 h3
 obtain⟨rfl,rfl⟩:=lr_after h2
 obtain⟨-,rfl⟩:=oget_one h1
 exact⟨Nat.zero_lt_succ _,⟨_,hs,rfl,rfl,rfl⟩,0,_,hnp,hv,he,⟨rfl,rfl⟩⟩
theorem lr_bm {t:St}{s:ByteArray}{a l c a' l' c':Nat}(hs:oget t.oh 0=some ⟨4,[lrV s a' l' c'],0,true⟩):Bm t.oh (lrO s a' l' c' ++ lrO s a l c):=by
 intro i o h
 obtain⟨rfl,rfl⟩:=lr_after h
 refine⟨_,hs,rfl,rfl,rfl,rfl,fun k e e1 he he1=>?_⟩
 rw [he] at he1
 obtain rfl:e=e1:=by simpa using he1
 cases k with
 |zero=>
  obtain rfl:lrV s a' l' c'=e:=by simpa using he
  refine⟨rfl,fun j x y hx hy=>?_⟩
  rw [hx] at hy
  obtain rfl:x=y:=by simpa using hy
  have hm:=List.mem_of_getElem? hx
  simp at hm
  rcases hm with rfl|rfl|rfl|rfl<;>exact .con _
 |succ k=>simp at he
theorem lr_ret0 {P:Program}{fn:Func}{t:St}{vs:List V}{s:ByteArray}{a l c a' l' c' np:Nat}{x:X}(hx:match x with|.exit _=>False|_=>True)(hr:fn.results.toList=[])(hs:oget t.oh 0=some ⟨4,[lrV s a' l' c'],0,true⟩)(hnp:0 < np)(hv:vs[0]?=some (.ref 0 0 0 0))(he:eget t.env 0=.ref 0 0 0 0) :
  RetG P fn np (lrO s a l c) vs (lrO s a' l' c') (.tup []) x t:=by
 refine⟨hx,false,t,rfl,lr_pin hs hnp hv he,lr_bm hs,?_⟩
 rw [hr]
def walkF (s:ByteArray)(a:Nat)(l c:Nat):Nat→Nat×Nat
 |0=>(l,c)
 |k+1=>if(chr s (a+k)).toNat=10 then((walkF s a l c k).1+1,1) else((walkF s a l c k).1,(walkF s a l c k).2+1)
theorem walkF_le (s:ByteArray)(a l c:Nat):∀k,(walkF s a l c k).1≤l+k∧(walkF s a l c k).2≤c+k+1
 |0=>⟨Nat.le_refl _,by simp [walkF]⟩
 |k+1=>by
  have:=walkF_le s a l c k
  rw [walkF]
  split<;>(simp only;omega)
def tB (b:UInt8):T:=.con (.int .u8 b.toNat)
theorem at_b {l:List UInt8}{i:Nat}{b:UInt8}(h:l[i]?=some b):(l.map tB)[i]?=some (tB b):=by
 rw [List.getElem?_map,h];rfl
theorem pass_ok (s:ByteArray)(a l c n:Nat)(hs:s.size≤1073741824)(ha:a+n≤s.size)(hl:l≤1073741825)(hc:c≤1073741825) :
  OkG Tryz.prog 91 (lrO s a l c) [] [.ref 0 0 0 0,.con (.int .i64 n)] (lrO s (a+n) (walkF s a l c n).1 (walkF s a l c n).2) (.tup []):=by
 refine okg_of_ev hC0 mix 2 (zO rfl) Tryz.func91 rfl rfl (by kernel_rfl) (by kernel_rfl) (zO rfl) ?wf ?vs ?po ?le ?_
 case wf=>exact lr_wf _ _ _ _
 case vs=>
  intro v hv
  simp at hv
  rcases hv with rfl|rfl
  ·exact rfl
  ·trivial
 case po=>exact lr_po _ _ _ _ _ _ _
 case le=>exact lr_le _ _ _ _ _ _ _
 have hsz:(s.extract a (a+n)).size=n:=by rw [ByteArray.size_extract];omega
 have h47:(s.extract a (a+n)).size≤140737488355328:=by omega
 obtain⟨B,hB⟩:∃B:List UInt8,B=(s.extract a (a+n)).data.toList:=⟨_,rfl⟩
 have hBl:B.length=n:=by rw [hB,Array.length_toList];exact hsz
 have hBk:∀k,k < n→B[k]?=some (chr s (a+k)):=by
  intro k hk
  have h1:B=((bs s).drop a).take n:=by
   rw [hB]
   show bs (s.extract a (a+n))=_
   unfold bs
   rw [ByteArray.data_extract,Array.toList_extract,List.extract_eq_take_drop]
   congr 1;omega
  rw [h1,List.getElem?_take_of_lt hk,List.getElem?_drop]
  have h2:a+k < (bs s).length:=by rw [bs_len];omega
  unfold chr
  rw [List.getD,List.getElem?_eq_getElem h2];rfl
 have hlen:V.con (.int .i64 (((s.extract a (a+n)).data.toList.map tB).length:Int))=.con (.int .i64 n):=by rw [List.length_map,← hB,hBl]
 have hro:V.ro true (.sl ((s.extract a (a+n)).data.toList.map tB))=.ro true (.sl (B.map tB)):=by rw [hB]
 repeat'(first|(refine And.intro h47 ?_)|(with_reducible first|(refine zz ?_;try intro K hK)|refine zI ?_|refine zt ?_|refine zf ?_)|((first|refine hK _ ?_|refine hK _ _ rfl ?_);clear hK K)|(guard_hyp hK;first|(refine zY ?zz ?_;case zz=>first|exact rfl|exact gJ)|refine fresh_n ?_|refine freshO_n ?_|refine zW ?_|intro b0 hb)|((first|with_reducible refine zm ?_|guard_hyp hK);refine zY ?_ ?_;all_goals(intro hb;(try simp only [sn,sb] at hb);try exact ex0)))
 refine loop_i Nat (fun k=>⟨Tryz.f91.ntmps,[(0,.ref 0 0 0 0),(1,.con (.int .i64 n)),(21,.ro true (.sl (B.map tB))),(22,.con (.int .i64 n)),(23,.con (.int .i64 k))],[(0,⟨4,[lrV s a (walkF s a l c k).1 (walkF s a l c k).2],0,true⟩)]⟩) (fun k=>k≤n) (fun k=>n - k) [] 0 trivial (Nat.zero_le _) ⟨rfl,⟨rfl,rfl,rfl,trivial,hro,trivial,hlen,trivial,rfl,trivial,trivial⟩,⟨rfl,trivial⟩,⟨lr_one,trivial⟩⟩ ?_
 intro k hk
 have hw:=walkF_le s a l c k
 by_cases hlt:k < n
 ·have hbk:=hBk k hlt
  repeat'(first|(refine Exists.intro _ (And.intro (at_b hbk) ?_))|(with_reducible first|(refine zz ?_;try intro K hK)|refine zI ?_|refine zt ?_|refine zf ?_)|((first|refine hK _ ?_|refine hK _ _ rfl ?_);clear hK K)|(guard_hyp hK;first|(refine zY ?zz ?_;case zz=>first|exact rfl|exact gJ)|refine fresh_n ?_|refine freshO_n ?_|refine zW ?_|intro b0 hb)|((first|with_reducible refine zm ?_|guard_hyp hK);refine zY ?_ ?_;all_goals(intro hb;(try simp only [sn,sb] at hb);try exact ex0)))
  ·refine⟨k+1,hlt,by omega,rfl,⟨rfl,rfl,rfl,trivial,rfl,trivial,rfl,trivial,rfl,trivial,trivial⟩,⟨?_,trivial⟩,⟨lr_one,trivial⟩⟩
   rw [walkF,if_pos (by omega)];rfl
  ·refine⟨k+1,hlt,by omega,rfl,⟨rfl,rfl,rfl,trivial,rfl,trivial,rfl,trivial,rfl,trivial,trivial⟩,⟨?_,trivial⟩,⟨lr_one,trivial⟩⟩
   rw [walkF,if_neg (by omega)];rfl
 ·obtain rfl:k=n:=by omega
  repeat'(first|(with_reducible first|(refine zz ?_;try intro K hK)|refine zI ?_|refine zt ?_|refine zf ?_)|((first|refine hK _ ?_|refine hK _ _ rfl ?_);clear hK K)|(guard_hyp hK;first|(refine zY ?zz ?_;case zz=>first|exact rfl|exact gJ)|refine fresh_n ?_|refine freshO_n ?_|refine zW ?_|intro b0 hb)|((first|with_reducible refine zm ?_|guard_hyp hK);refine zY ?_ ?_;all_goals(intro hb;(try simp only [sn,sb] at hb);try exact ex0)))
  exact lr_ret0 trivial rfl rfl (by decide) rfl rfl
theorem walk_place (s:ByteArray)(a:Nat):∀k,walkF s a (placeF s a).1 (placeF s a).2 k=placeF s (a+k)
 |0=>rfl
 |k+1=>by
  rw [walkF,walk_place s a k,← Nat.add_assoc,placeF]
end Go.Ev
