import Derived.Test.YtfdgaoihjedamaaGreatDoorLbj
import Derived.Test.YtfdgaoihjedamaaGreatDoorLat
import Derived.Test.YtfdgaoihjedamaaGreatDoorLbf
import Derived.Test.YtfdgaoihjedamaaGreatDoorLbi
import Derived.Test.YtfdgaoihjedamaaGreatDoorLbb
set_option linter.all false
set_option maxHeartbeats 60000000
set_option maxRecDepth 10000
namespace Go.Ev
open Go.Proofs
open PS (Trm EntD VarD PrbD FilD)
variable {W : Txt}
theorem lm_le_pow {n k:Nat}(h:n < 4294967296 ^ k)(hk:k≤4611686018427387904):LOK (lm n):=Nat.le_trans (lm_len h) hk
theorem lok_mono {a b:Nat}(h:a≤b)(hb:LOK (lm b)):LOK (lm a):=Nat.le_trans (lm_len_le h) hb
theorem decQ_ok {w:ByteArray}(h:NumOK w)(hw:w.size≤100000):LOK (lm (decQ w).1.natAbs)∧LOK (lm (decQ w).2):=by
 have hq:=nm_A h
 have hA:=numA_le (s:=w)
 have hML:(decMl w).length≤100000:=by
  have e:=all_bs h
  rw [← e,bs_len,ByteArray.size_append,ahd_len h,beh_len h]
  by_cases c:ptB w
  ·rw [if_pos c] at hq;omega
  ·rw [if_neg c] at hq;unfold nmB;rw [if_neg c];omega
 have hX : -1000≤decX w∧decX w≤1000:=by
  unfold decX
  by_cases c:numE w
  ·have:=(nm_E h c).2.2.2
   rw [if_pos c];split<;>omega
  ·rw [if_neg c];omega
 have hB:nmB w≤100000:=by
  by_cases c:ptB w
  ·rw [if_pos c] at hq;omega
  ·unfold nmB;rw [if_neg c];omega
 have hM:decV (decMl w) < 256 ^ (decMl w).length:=by
  have:=decV_lt (decMl w) 0;rw [Nat.zero_add,Nat.one_mul] at this;exact this
 have pw:∀n:Nat,(10:Nat) ^ n≤4294967296 ^ n:=fun n=>Nat.pow_le_pow_left (by decide) n
 have hn:LOK (lm (decPn w))∧LOK (lm (decPd w)):=by
  unfold decPn decPd
  by_cases c:0≤decX w - nmB w
  ·rw [if_pos c,if_pos c]
   refine⟨lm_le_pow (k:=(decMl w).length+(decX w - nmB w).toNat) ?_ (by omega),lm_le_pow (k:=1) (by decide) (by decide)⟩
   rw [Nat.pow_add]
   exact Nat.lt_of_lt_of_le (Nat.mul_lt_mul_of_pos_right hM (Nat.pow_pos (by decide))) (Nat.mul_le_mul (Nat.pow_le_pow_left (by decide) _) (pw _))
  ·rw [if_neg c,if_neg c]
   refine⟨lm_le_pow (k:=(decMl w).length) (Nat.lt_of_lt_of_le hM (Nat.pow_le_pow_left (by decide) _)) (by omega),Nat.le_trans (pow10_le _) (by omega)⟩
 have e1:(decQ w).1=((decPn w / Nat.gcd (decPn w) (decPd w):Nat):Int):=rfl
 have e2:(decQ w).2=decPd w / Nat.gcd (decPn w) (decPd w):=rfl
 rw [e1,e2,Int.natAbs_natCast]
 exact⟨lok_mono (Nat.div_le_self _ _) hn.1,lok_mono (Nat.div_le_self _ _) hn.2⟩
def DecB (W:Txt)(dec:ByteArray→Int×Nat):Prop:=∀t ∈ W.L,t.kind=2→LOK (lm (dec t.text).1.natAbs)∧LOK (lm (dec t.text).2)
def TsOK (l:List Trm):Prop:=∀t ∈ l,TrmOK t
theorem sgn_ok (k:Int):TrmOK ⟨k,0,0⟩:=by
 have h:LOK (lm 0):=by rw [show lm 0=[] from by simp [lm]];exact Nat.zero_le _
 exact⟨h,h⟩
theorem TsOK.nil : TsOK []:=fun t h=>by simp at h
theorem TsOK.app {a b:List Trm}(h:TsOK a)(k:TsOK b):TsOK (a ++ b):=fun t ht=>(List.mem_append.1 ht).elim (h t) (k t)
theorem TsOK.one {t:Trm}(h:TrmOK t):TsOK [t]:=fun u hu=>by obtain rfl:=List.mem_singleton.1 hu;exact h
def RdOK (f:PS.Rd W):Prop:=∀σ,TsOK (f σ).1
theorem chain_ok {f:PS.Rd W}(hf:RdOK f){a b:ByteArray}{ka kb:Int}:∀(k:Nat) (l:List Trm) (σ:PS W),TsOK l→TsOK (PS.chainL f a b ka kb k l σ).1
 |0,l,σ,h=>h
 |k+1,l,σ,h=>by
  rw [PS.chainL]
  split
  ·exact chain_ok hf k _ _ ((h.app (hf _)).app (TsOK.one (sgn_ok _)))
  ·split
   ·exact chain_ok hf k _ _ ((h.app (hf _)).app (TsOK.one (sgn_ok _)))
   ·exact h
theorem prod_ok {f:PS.Rd W}(hf:RdOK f):RdOK (PS.prod f):=fun σ=>chain_ok hf _ _ _ (hf σ)
theorem sum_ok {f:PS.Rd W}(hf:RdOK f):RdOK (PS.sum f):=fun σ=>chain_ok (prod_ok hf) _ _ _ (prod_ok hf σ)
theorem un_ok {dec:ByteArray→Int×Nat}(hd:DecB W dec):∀d,RdOK (W:=W) (PS.un dec d)
 |0=>fun σ=>TsOK.nil
 |d+1=>fun σ=>by
  have ih:=un_ok hd d
  rw [PS.un]
  split
  ·rename_i t ht
   split
   ·rename_i hk
    obtain⟨h1,h2⟩:=hd t (List.mem_of_getElem? (PS.tok_at ht).2.1) hk
    exact TsOK.one ⟨h1,h2⟩
   ·split
    ·split
     ·exact TsOK.nil
     ·exact(ih _).app (TsOK.one (sgn_ok _))
    ·split
     ·split
      ·exact TsOK.nil
      ·exact sum_ok ih _
     ·exact TsOK.nil
  ·exact TsOK.nil
theorem namesL_cnt : ∀(k:Nat) (l:List ByteArray) (σ:PS W),(PS.namesL k l σ).1.length≤l.length+k
 |0,l,_=>Nat.le_refl _
 |k+1,l,σ=>by
  rw [PS.namesL];split
  ·have:=namesL_cnt k (l ++ [(PS.take 1 σ).1]) (PS.take 1 σ).2.adv
   rw [List.length_append,List.length_singleton] at this;omega
  ·show(l ++ [_]).length≤_
   rw [List.length_append,List.length_singleton];omega
theorem propsL_cnt : ∀(k:Nat) (l:List ByteArray) (σ:PS W),(PS.propsL k l σ).1.length≤l.length+k
 |0,l,_=>Nat.le_refl _
 |k+1,l,σ=>by
  rw [PS.propsL];split
  ·have:=propsL_cnt k (l ++ [(PS.take 3 σ.adv).1]) (PS.need 4 PS.kSemi (PS.take 3 σ.adv).2)
   rw [List.length_append,List.length_singleton] at this;omega
  ·show l.length≤_;omega
section
variable (hF : Fit W)
include hF
theorem names_lok (σ:PS W):LOK (PS.names σ).1:=by
 have:=hF.len
 unfold PS.names
 split
 ·exact Nat.zero_le _
 ·have h:=namesL_cnt (W.L.length+1) [] σ
  rw [List.length_nil] at h
  unfold LOK;omega
theorem props_lok (σ:PS W):LOK (PS.props σ).1:=by
 have:=hF.len
 have h:=propsL_cnt (W.L.length+1) [] σ
 rw [List.length_nil] at h
 unfold LOK PS.props;omega
theorem sum0_ok {dec:ByteArray→Int×Nat}(hd:DecB W dec)(σ:PS W)(ha:σ.at_≤W.L.length):LOK (PS.sum0 dec σ).1∧TsOK (PS.sum0 dec σ).1:=by
 have:=hF.len
 obtain⟨h1,h2⟩:=PS.sum0_good dec σ
 have h3:=h1.hi ha
 exact⟨by unfold LOK;omega,sum_ok (un_ok hd _) σ⟩
theorem rowL_ok {dec:ByteArray→Int×Nat}(hd:DecB W dec):∀(k:Nat) (l:List (List Trm)) (σ:PS W),σ.at_≤W.L.length→(∀x ∈ l,LOK x∧TsOK x)→(PS.rowL dec k l σ).1.length≤l.length+k∧∀x ∈ (PS.rowL dec k l σ).1,LOK x∧TsOK x
 |0,l,_,_,hl=>⟨Nat.le_refl _,hl⟩
 |k+1,l,σ,ha,hl=>by
  have h0:=sum0_ok hF hd σ ha
  have hl2:∀x ∈ l ++ [(PS.sum0 dec σ).1],LOK x∧TsOK x:=fun x hx=>(List.mem_append.1 hx).elim (hl x) (fun h=>by obtain rfl:=List.mem_singleton.1 h;exact h0)
  rw [PS.rowL];split
  ·rename_i hB
   have hi:=(PS.adv_fol1 hB (by decide)).hi ((PS.sum0_good dec σ).1.hi ha)
   have:=rowL_ok hd k (l ++ [(PS.sum0 dec σ).1]) (PS.sum0 dec σ).2.adv hi hl2
   rw [List.length_append,List.length_singleton] at this
   exact⟨by omega,this.2⟩
  ·exact⟨by show(l ++ [_]).length≤_;rw [List.length_append,List.length_singleton];omega,hl2⟩
theorem row_ok {dec:ByteArray→Int×Nat}(hd:DecB W dec)(σ:PS W)(ha:σ.at_≤W.L.length):RwOK (PS.row dec σ).1:=by
 have:=hF.len
 unfold PS.row
 split
 ·exact⟨Nat.zero_le _,fun x hx=>by simp at hx⟩
 ·obtain⟨h1,h2⟩:=rowL_ok hF hd (W.L.length+1) [] σ ha (fun x hx=>by simp at hx)
  rw [List.length_nil] at h1
  exact⟨by unfold LOK;omega,h2⟩
theorem ent_ok {dec:ByteArray→Int×Nat}(hd:DecB W dec)(σ:PS W)(ha:σ.at_≤W.L.length):EntOK (PS.entD dec σ).1:=by
 have h1:=(PS.ent1_fol σ).1.hi ha
 refine⟨?_,row_ok hF hd _ h1⟩
 show LOK (PS.ent1 σ).2.1
 unfold PS.ent1
 split
 ·exact Nat.zero_le _
 ·split
  ·exact Nat.zero_le _
  ·exact names_lok hF _
theorem prbL_ok {dec:ByteArray→Int×Nat}(hd:DecB W dec):∀(k:Nat) (es:List EntD) (ps:List ByteArray) (σ:PS W),σ.at_≤W.L.length→(∀e ∈ es,EntOK e)→
  (PS.prbL dec k es ps σ).1.length≤es.length+k∧(∀e ∈ (PS.prbL dec k es ps σ).1,EntOK e)∧(PS.prbL dec k es ps σ).2.1.length≤ps.length+k * (W.L.length+1)
 |0,es,ps,σ,_,he=>⟨Nat.le_refl _,he,by rw [PS.prbL];simp⟩
 |k+1,es,ps,σ,ha,he=>by
  have hk:(k+1) * (W.L.length+1)=k * (W.L.length+1)+(W.L.length+1):=Nat.succ_mul _ _
  rw [PS.prbL]
  split
  ·exact⟨Nat.le_add_right _ _,he,Nat.le_add_right _ _⟩
  ·split
   ·exact⟨Nat.le_add_right _ _,he,Nat.le_add_right _ _⟩
   ·split
    ·have hp:=propsL_cnt (W.L.length+1) [] σ
     rw [List.length_nil] at hp
     obtain⟨h1,h2,h3⟩:=prbL_ok hd k es (ps ++ (PS.props σ).1) (PS.props σ).2 ((PS.props_fol σ).hi ha) he
     rw [List.length_append] at h3
     have hp2:(PS.props σ).1.length≤0+(W.L.length+1):=hp
     exact⟨by omega,h2,by omega⟩
    ·have hs:=(PS.settle_fol σ).hi ha
     obtain⟨h1,h2,h3⟩:=prbL_ok hd k (es ++ [(PS.entD dec σ.settle).1]) ps (PS.entD dec σ.settle).2 ((PS.entD_fol dec _).1.hi hs) (fun e h=>(List.mem_append.1 h).elim (he e) (fun h=>by obtain rfl:=List.mem_singleton.1 h;exact ent_ok hF hd _ hs))
     rw [List.length_append,List.length_singleton] at h1
     exact⟨by omega,h2,by omega⟩
theorem prb_ok {dec:ByteArray→Int×Nat}(hd:DecB W dec)(σ:PS W)(ha:σ.at_≤W.L.length):PrbOK (PS.prbD dec σ).1:=by
 have hL:=hF.len
 have h2:=(PS.prb2_fol σ).hi ha
 obtain⟨e1,e2,e3⟩:=prbL_ok hF hd (W.L.length+2) [] [] (PS.prb2 σ) h2 (fun e h=>by simp at h)
 rw [List.length_nil] at e1 e3
 refine⟨?_,?_,?_,e2⟩
 ·show LOK (PS.prb1 (PS.take 1 (PS.need 4 PS.kOpen σ)).2).1
  unfold PS.prb1
  split
  ·exact names_lok hF _
  ·exact Nat.zero_le _
 ·show(PS.prbL dec (W.L.length+2) [] [] (PS.prb2 σ)).2.1.length≤_
  have:(W.L.length+2) * (W.L.length+1)≤1073741826 * 1073741825:=Nat.mul_le_mul (by omega) (by omega)
  omega
 ·show(PS.prbL dec (W.L.length+2) [] [] (PS.prb2 σ)).1.length≤_
  omega
theorem var_ok (σ:PS W)(hc:∀τ:PS W,LOK (lm (PS.count natP τ).1)):VarOK (PS.varD natP σ).1:=⟨hc _,names_lok hF _,props_lok hF _⟩
theorem partL_ok {dec:ByteArray→Int×Nat}(hd:DecB W dec)(hc:∀τ:PS W,LOK (lm (PS.count natP τ).1)):∀(k:Nat) (vs:List VarD) (ps:List PrbD) (σ:PS W),σ.at_≤W.L.length→(∀v ∈ vs,VarOK v)→(∀p ∈ ps,PrbOK p)→
  (PS.partL dec natP k vs ps σ).1.length≤vs.length+k∧(PS.partL dec natP k vs ps σ).2.1.length≤ps.length+k∧(∀v ∈ (PS.partL dec natP k vs ps σ).1,VarOK v)∧∀p ∈ (PS.partL dec natP k vs ps σ).2.1,PrbOK p
 |0,vs,ps,σ,_,hv,hp=>⟨Nat.le_refl _,Nat.le_refl _,hv,hp⟩
 |k+1,vs,ps,σ,ha,hv,hp=>by
  rw [PS.partL]
  split
  ·rename_i hB
   have h1:=(PS.adv_fol1 hB (by decide)).hi ha
   obtain⟨a,b,c,d⟩:=partL_ok hd hc k (vs ++ [(PS.varD natP σ.adv).1]) ps (PS.varD natP σ.adv).2 ((PS.varD_fol natP _).hi h1) (fun e h=>(List.mem_append.1 h).elim (hv e) (fun h=>by obtain rfl:=List.mem_singleton.1 h;exact var_ok hF _ hc)) hp
   rw [List.length_append,List.length_singleton] at a
   exact⟨by omega,by omega,c,d⟩
  ·split
   ·rename_i hB
    have h1:=(PS.adv_fol1 hB (by decide)).hi ha
    obtain⟨a,b,c,d⟩:=partL_ok hd hc k vs (ps ++ [(PS.prbD dec σ.adv).1]) (PS.prbD dec σ.adv).2 ((PS.prbD_fol dec _).hi h1) hv (fun e h=>(List.mem_append.1 h).elim (hp e) (fun h=>by obtain rfl:=List.mem_singleton.1 h;exact prb_ok hF hd _ h1))
    rw [List.length_append,List.length_singleton] at b
    exact⟨by omega,by omega,c,d⟩
   ·exact⟨Nat.le_add_right _ _,Nat.le_add_right _ _,hv,hp⟩
theorem fil_ok {dec:ByteArray→Int×Nat}(hd:DecB W dec)(hc:∀τ:PS W,LOK (lm (PS.count natP τ).1))(σ:PS W)(ha:σ.at_≤W.L.length):FilOK (PS.filD dec natP σ).1:=by
 have hL:=hF.len
 have h1:(PS.fil2 σ).at_≤W.L.length:=(PS.need_fol _ _ _).hi ((PS.props_fol _).hi ((PS.need_fol _ _ _).hi ((PS.take_fol _ _).hi ((PS.need_fol _ _ _).hi ha))))
 obtain⟨a,b,c,d⟩:=partL_ok hF hd hc (W.L.length+1) [] [] (PS.fil2 σ) h1 (fun e h=>by simp at h) (fun e h=>by simp at h)
 rw [List.length_nil] at a b
 exact⟨props_lok hF _,by show(PS.partL dec natP (W.L.length+1) [] [] (PS.fil2 σ)).1.length≤_;omega,by show(PS.partL dec natP (W.L.length+1) [] [] (PS.fil2 σ)).2.1.length≤_;omega,c,d⟩
theorem count_lok (τ:PS W):LOK (lm (PS.count natP τ).1):=by
 have h0:LOK (lm 0):=by rw [show lm 0=[] from by simp [lm]];exact Nat.zero_le _
 unfold PS.count
 split
 ·rename_i t ht
  split
  ·rename_i n hn
   split
   ·unfold natP at hn
    split at hn
    ·obtain rfl:decV (bs t.text)=n:=by simpa using hn
     have h1:=decV_len (bs t.text)
     have h2:=hF.tok ht
     rw [bs_len] at h1
     exact Nat.le_trans h1 (by omega)
    ·cases hn
   ·exact h0
  ·exact h0
 ·exact h0
end
theorem file_ok (s:ByteArray)(hs:s.size≤90000):FilOK (fileS decQ s).1:=by
 obtain⟨h1,h2⟩:=allF_ok s 0 (Nat.zero_le _)
 have hF:=txt_fit s hs
 have hd:DecB (txt s) decQ:=fun t ht hk=>decQ_ok ((h2 t ht).2 hk) (by have:=(h2 t ht).1;omega)
 have h:=fil_ok hF hd (count_lok hF) (PS.begin s) (Nat.zero_le _)
 unfold fileS
 split
 ·exact⟨Nat.zero_le _,Nat.zero_le _,Nat.zero_le _,fun v hv=>by simp at hv,fun v hv=>by simp at hv⟩
 ·exact h
def TokK (t:Tok):Prop:=(t.kind=1→isLet (chr t.text 0)=true)∧(t.kind=4→isSgn (chr t.text 0)=true)
theorem takeF_kind {s:ByteArray}(h1:1≤s.size)(l c:Int):TokK ⟨(takeF s).kind,(takeF s).text,l,c⟩:=by
 have no:∀{k:Int} {p q:Prop},k≠1→k≠4→(k=1→p)∧(k=4→q):=fun a b=>⟨fun h=>absurd h a,fun h=>absurd h b⟩
 unfold TokK takeF
 split
 ·refine no ?_ ?_<;>(intro h;dsimp only at h;revert h;decide)
 ·split
  ·refine no ?_ ?_<;>(intro h;dsimp only at h;revert h;decide)
  ·split
   ·rename_i hl
    split
    ·refine no ?_ ?_<;>(intro h;dsimp only at h;revert h;decide)
    ·refine⟨fun _=>?_,fun h=>by(exfalso;dsimp only at h;revert h;decide)⟩
     have hw:=runF_yes (p:=isWrd) (s:=s) (i:=0) h1 (by unfold isWrd;rw [hl];rfl)
     dsimp only
     rw [pre_chr (by omega)];exact hl
   ·split
    ·split
     ·refine no ?_ ?_<;>(intro h;dsimp only at h;revert h;decide)
     ·refine no ?_ ?_<;>(intro h;dsimp only at h;revert h;decide)
    ·split
     ·split
      ·refine no ?_ ?_<;>(intro h;dsimp only at h;revert h;decide)
      ·refine no ?_ ?_<;>(intro h;dsimp only at h;revert h;decide)
     ·split
      ·rename_i hg
       refine⟨fun h=>by(exfalso;dsimp only at h;revert h;decide),fun _=>?_⟩
       dsimp only
       rw [pre_chr (by omega)];exact hg
      ·refine no ?_ ?_<;>(intro h;dsimp only at h;revert h;decide)
theorem allF_kind (s:ByteArray)(i:Nat)(hi:i≤s.size):∀t ∈ (allF s i).1,TokK t:=by
 rw [allF]
 split
 ·rename_i hlt
  have hl:=rest_len hi
  split
  ·exact fun t ht=>by simp at ht
  ·rename_i hc
   have hp:=takeF_prog (s:=s.extract i s.size) (by omega) (Decidable.not_not.1 hc)
   have ih:=allF_kind s (i+(takeF (s.extract i s.size)).n) (by omega)
   split
   ·split
    ·intro t ht
     rcases List.mem_cons.1 ht with rfl|ht
     ·exact takeF_kind (s:=s.extract i s.size) (by omega) (placeF s i).1 (placeF s i).2
     ·exact ih t ht
    ·exact ih
   ·exact fun t ht=>by simp at ht
 ·intro t ht
  obtain rfl:=List.mem_singleton.1 ht
  exact⟨fun h=>by(exfalso;dsimp only at h;revert h;decide),fun h=>by(exfalso;dsimp only at h;revert h;decide)⟩
termination_by s.size - i
theorem kind_1 {s w:ByteArray}(h:isSgn (chr w 0)=false):KindOK (txt s) (1,w):=
 ⟨.inl rfl,fun t ht e hk=>hk.elim id fun h4=>by
  have:=(allF_kind s 0 (Nat.zero_le _) t ht).2 h4
  rw [show t.text=w from e,h] at this;cases this⟩
theorem kind_4 {s w:ByteArray}(h:isLet (chr w 0)=false):KindOK (txt s) (4,w):=
 ⟨.inr rfl,fun t ht e hk=>hk.elim (fun h1=>by
  have:=(allF_kind s 0 (Nat.zero_le _) t ht).1 h1
  rw [show t.text=w from e,h] at this;cases this) id⟩
theorem txt_kin (s:ByteArray):Kin (txt s):=
 ⟨kind_1 (by decide),kind_1 (by decide),kind_1 (by decide),kind_1 (by decide),kind_1 (by decide),kind_4 (by decide),kind_4 (by decide),kind_4 (by decide),kind_4 (by decide),kind_4 (by decide),kind_4 (by decide),kind_4 (by decide)⟩
theorem pTxt_dec (s:ByteArray)(hs:s.size≤90000):∀t ∈ (txt s).L,t.kind=2→Ok Tryz.prog 95 [tS9 t.text] true (.tup [tNum (decQ t.text).1 (decQ t.text).2,.con (.int .i64 0)]):=by
 obtain⟨h1,h2⟩:=allF_ok s 0 (Nat.zero_le _)
 exact fun t ht hk=>dPar_ok t.text ((h2 t ht).2 hk) (by have:=(h2 t ht).1;omega)
theorem pSum65 (s:ByteArray)(hs:s.size≤90000):UnOK Tryz.prog 20 65 (PS.sum (X:=txt s) (PS.un decQ 65)):=by
 have hF:=txt_fit s hs
 exact pSum_ok hF.len (PS.un_good decQ 65) (pProd_ok hF.len (PS.un_good decQ 65) (pUn_ok hF (txt_kin s) (pTxt_dec s hs) 65 (by decide)))
theorem pFile (s:ByteArray)(hs:s.size≤90000):Ok Tryz.prog 11 [tS9 s] false (.tup [tFil (fileS decQ s).1,tFe (fileS decQ s).2]):=
 pFile_ok s (txt_fit s hs) (txt_kin s) (pSum65 s hs) (start_ok s (by omega))
theorem fileS_cod (s:ByteArray):∀f,(fileS decQ s).2=some f→f.code≠0:=by
 intro f h
 unfold fileS at h
 split at h
 ·rename_i f' hb
  cases h
  exact PS.cod _ _ hb
 ·cases h
def eV : Option Flt→V
 |none=>.con .nilIface
 |some f=>.ro false (.ifc 88 (.ptr (fTl f)))
theorem eV_cl (o:Option Flt)(oh:OH):(eV o).cl oh:=by cases o<;>exact trivial
def fiO (f:FilD):Obj:=⟨4,[.agg [.con (.string f.name),.ro false (tSs f.prps),.ro false (.sl (f.vars.map tVar)),.ro false (.sl (f.prbs.map tPrb))]],0,true⟩
def flO (o:Option Flt):Obj:=⟨4,[.agg [.con (.int .i64 (foC o)),.con (.int .i64 (foL o)),.con (.int .i64 (foK o)),.con (.string (foW o))]],0,true⟩
theorem fi_fl (f:FilD):∀v ∈ (fiO f).el,v.flat:=fun v hv=>by
 obtain rfl:=List.mem_singleton.1 hv
 intro u hu
 simp at hu
 rcases hu with rfl|rfl|rfl|rfl<;>trivial
theorem fi_cl (f:FilD)(oh:OH):(fiO f).el.headD .undef |>.cl oh:=V.flat.cl _ (fi_fl f _ (List.mem_singleton.2 rfl))
theorem fl_fl (f:Option Flt):∀v ∈ (flO f).el,v.flat:=fun v hv=>by
 obtain rfl:=List.mem_singleton.1 hv
 intro u hu
 simp at hu
 rcases hu with rfl|rfl|rfl|rfl<;>trivial
theorem fl_cl (f:Option Flt)(oh:OH):(flO f).el.headD .undef |>.cl oh:=V.flat.cl _ (fl_fl f _ (List.mem_singleton.2 rfl))
theorem law_ok (s t:ByteArray):Ok Tryz.prog 4 [tS9 s,tS9 t] true (.con (.bool true)):=by
 refine ok_of_ev hC0 mix Tryz.func4 rfl rfl (by kernel_rfl) (zO rfl) ?_
 repeat'(first|(refine seq_j (a:=Code.region 2 _ _) (ByteArray×ByteArray) (fun z=>⟨Tryz.f4.ntmps,[(0,.con (.string z.1)),(1,.con (.string z.2))],[]⟩) (fun z=>z.1.size≤90000∧z.2.size≤90000) ?_ ?_)|(with_reducible first|(refine zz ?_;try intro K hK)|refine zI ?_|refine zt ?_|refine zf ?_)|((first|refine hK _ ?_|refine hK _ _ rfl ?_);clear hK K)|(guard_hyp hK;first|(refine zY ?zz ?_;case zz=>first|exact rfl|exact gJ)|refine fresh_n ?_|refine freshO_n ?_|refine zW ?_|intro b0 hb)|((first|with_reducible refine zm ?_|guard_hyp hK);refine zY ?_ ?_;all_goals(intro hb;(try simp only [sn,sb] at hb);try exact ex0)))
 ·rintro⟨a,b⟩ ⟨ha,hb9⟩
  dsimp only at ha hb9
  have r1:=rFile a ha
  have r2:=rFile b hb9
  have p1:=pFile a ha
  have p2:=pFile b hb9
  have t1:=told_ok as_ok _ (fileS_cod a)
  have t2:=told_ok as_ok _ (fileS_cod b)
  have s1:=sFile _ (file_ok a ha)
  have s2:=sFile _ (file_ok b hb9)
  generalize (fileS decQ a).1=f1 at *
  generalize (fileS decQ a).2=o1 at *
  generalize (fileS decQ b).1=f2 at *
  generalize (fileS decQ b).2=o2 at *
  rw [tFo_eq] at r1 r2 t1 t2
  refine seq_j (a:=Code.region 3 _ _) Unit (fun _=>⟨Tryz.f4.ntmps,[(0,.con (.string a)),(1,.con (.string b)),(5,.ref 0 0 0 0),(6,.ref 1 0 0 0)],[(0,fiO f1),(1,flO o1)]⟩) (fun _=>True) ?_ ?_
  rotate_left
  ·intro R hR
   repeat'(first|(with_reducible first|(refine zz ?_;try intro K hK)|refine zI ?_|refine zt ?_|refine zf ?_)|((first|refine hK _ ?_|refine hK _ _ rfl ?_);clear hK K)|(guard_hyp hK;first|(refine zY ?zz ?_;case zz=>first|exact rfl|exact gJ)|refine fresh_n ?_|refine freshO_n ?_|refine zW ?_|(refine zQ (r1) ?_)|intro b0 hb)|((first|with_reducible refine zm ?_|guard_hyp hK);refine zY ?_ ?_;all_goals(intro hb;(try simp only [sn,sb] at hb);try exact ex0)))
   exact hR _ () trivial ⟨rfl,⟨rfl,trivial,rfl,trivial,rfl,rfl,rfl,rfl,trivial⟩,⟨rfl,rfl,trivial⟩,⟨one_vs (fi_cl _ _),one_vs (fl_cl _ _),trivial⟩⟩
  intro _ _
  refine seq_j (a:=Code.region 4 _ _) Unit (fun _=>⟨Tryz.f4.ntmps,[(0,.con (.string a)),(1,.con (.string b)),(5,.ref 0 0 0 0),(6,.ref 1 0 0 0),(7,.ref 2 0 0 0),(8,.ref 3 0 0 0)],[(0,fiO f1),(1,flO o1),(2,fiO f2),(3,flO o2)]⟩) (fun _=>True) ?_ ?_
  rotate_left
  ·intro R hR
   repeat'(first|(with_reducible first|(refine zz ?_;try intro K hK)|refine zI ?_|refine zt ?_|refine zf ?_)|((first|refine hK _ ?_|refine hK _ _ rfl ?_);clear hK K)|(guard_hyp hK;first|(refine zY ?zz ?_;case zz=>first|exact rfl|exact gJ)|refine fresh_n ?_|refine freshO_n ?_|refine zW ?_|(refine zQ (r2) ?_)|intro b0 hb)|((first|with_reducible refine zm ?_|guard_hyp hK);refine zY ?_ ?_;all_goals(intro hb;(try simp only [sn,sb] at hb);try exact ex0)))
   exact hR _ () trivial ⟨rfl,⟨rfl,trivial,rfl,trivial,rfl,rfl,rfl,rfl,rfl,rfl,rfl,rfl,trivial⟩,⟨rfl,rfl,rfl,rfl,trivial⟩,⟨one_vs (fi_cl _ _),one_vs (fl_cl _ _),one_vs (fi_cl _ _),one_vs (fl_cl _ _),trivial⟩⟩
  intro _ _
  refine seq_j (a:=Code.region 5 _ _) Unit (fun _=>⟨Tryz.f4.ntmps,[(0,.con (.string a)),(1,.con (.string b)),(5,.ref 0 0 0 0),(6,.ref 1 0 0 0),(7,.ref 2 0 0 0),(8,.ref 3 0 0 0),(9,.ref 4 0 0 0),(10,eV o1)],[(0,fiO f1),(1,flO o1),(2,fiO f2),(3,flO o2),(4,fiO f1)]⟩) (fun _=>True) ?_ ?_
  rotate_left
  ·intro R hR
   cases o1
   all_goals
    repeat'(first|(with_reducible first|(refine zz ?_;try intro K hK)|refine zI ?_|refine zt ?_|refine zf ?_)|((first|refine hK _ ?_|refine hK _ _ rfl ?_);clear hK K)|(guard_hyp hK;first|(refine zY ?zz ?_;case zz=>first|exact rfl|exact gJ)|refine fresh_n ?_|refine freshO_n ?_|refine zW ?_|(refine zQ (p1) ?_)|intro b0 hb)|((first|with_reducible refine zm ?_|guard_hyp hK);refine zY ?_ ?_;all_goals(intro hb;(try simp only [sn,sb] at hb);try exact ex0)))
    exact hR _ () trivial ⟨rfl,⟨rfl,trivial,rfl,trivial,rfl,rfl,rfl,rfl,rfl,rfl,rfl,rfl,rfl,rfl,rfl,eV_cl _ _,trivial⟩,⟨rfl,rfl,rfl,rfl,rfl,trivial⟩,⟨one_vs (fi_cl _ _),one_vs (fl_cl _ _),one_vs (fi_cl _ _),one_vs (fl_cl _ _),one_vs (fi_cl _ _),trivial⟩⟩
  intro _ _
  refine seq_j (a:=Code.region 6 _ _) Unit (fun _=>⟨Tryz.f4.ntmps,[(0,.con (.string a)),(1,.con (.string b)),(5,.ref 0 0 0 0),(6,.ref 1 0 0 0),(7,.ref 2 0 0 0),(8,.ref 3 0 0 0),(9,.ref 4 0 0 0),(10,eV o1),(11,.ref 5 0 0 0),(12,eV o2)],[(0,fiO f1),(1,flO o1),(2,fiO f2),(3,flO o2),(4,fiO f1),(5,fiO f2)]⟩) (fun _=>True) ?_ ?_
  rotate_left
  ·intro R hR
   cases o2
   all_goals
    repeat'(first|(with_reducible first|(refine zz ?_;try intro K hK)|refine zI ?_|refine zt ?_|refine zf ?_)|((first|refine hK _ ?_|refine hK _ _ rfl ?_);clear hK K)|(guard_hyp hK;first|(refine zY ?zz ?_;case zz=>first|exact rfl|exact gJ)|refine fresh_n ?_|refine freshO_n ?_|refine zW ?_|(refine zQ (p2) ?_)|intro b0 hb)|((first|with_reducible refine zm ?_|guard_hyp hK);refine zY ?_ ?_;all_goals(intro hb;(try simp only [sn,sb] at hb);try exact ex0)))
    exact hR _ () trivial ⟨rfl,⟨rfl,trivial,rfl,trivial,rfl,rfl,rfl,rfl,rfl,rfl,rfl,rfl,rfl,rfl,rfl,eV_cl _ _,rfl,rfl,rfl,eV_cl _ _,trivial⟩,⟨rfl,rfl,rfl,rfl,rfl,rfl,trivial⟩,⟨one_vs (fi_cl _ _),one_vs (fl_cl _ _),one_vs (fi_cl _ _),one_vs (fl_cl _ _),one_vs (fi_cl _ _),one_vs (fi_cl _ _),trivial⟩⟩
  intro _ _
  refine seq_j (a:=Code.region 7 _ _) Unit (fun _=>⟨Tryz.f4.ntmps,[(0,.con (.string a)),(1,.con (.string b)),(5,.ref 0 0 0 0),(6,.ref 1 0 0 0),(7,.ref 2 0 0 0),(8,.ref 3 0 0 0),(9,.ref 4 0 0 0),(10,eV o1),(11,.ref 5 0 0 0),(12,eV o2),(13,.ref 6 0 0 0),(14,eV o1)],[(0,fiO f1),(1,flO o1),(2,fiO f2),(3,flO o2),(4,fiO f1),(5,fiO f2),(6,fiO f1)]⟩) (fun _=>True) ?_ ?_
  rotate_left
  ·intro R hR
   cases o1
   all_goals
    repeat'(first|(with_reducible first|(refine zz ?_;try intro K hK)|refine zI ?_|refine zt ?_|refine zf ?_)|((first|refine hK _ ?_|refine hK _ _ rfl ?_);clear hK K)|(guard_hyp hK;first|(refine zY ?zz ?_;case zz=>first|exact rfl|exact gJ)|refine fresh_n ?_|refine freshO_n ?_|refine zW ?_|(refine zQ (p1) ?_)|intro b0 hb)|((first|with_reducible refine zm ?_|guard_hyp hK);refine zY ?_ ?_;all_goals(intro hb;(try simp only [sn,sb] at hb);try exact ex0)))
    exact hR _ () trivial ⟨rfl,⟨rfl,trivial,rfl,trivial,rfl,rfl,rfl,rfl,rfl,rfl,rfl,rfl,rfl,rfl,rfl,eV_cl _ _,rfl,rfl,rfl,eV_cl _ _,rfl,rfl,rfl,eV_cl _ _,trivial⟩,⟨rfl,rfl,rfl,rfl,rfl,rfl,rfl,trivial⟩,⟨one_vs (fi_cl _ _),one_vs (fl_cl _ _),one_vs (fi_cl _ _),one_vs (fl_cl _ _),one_vs (fi_cl _ _),one_vs (fi_cl _ _),one_vs (fi_cl _ _),trivial⟩⟩
  intro _ _
  cases o1<;>cases o2
  all_goals
   repeat'(first|(with_reducible first|(refine zz ?_;try intro K hK)|refine zI ?_|refine zt ?_|refine zf ?_)|((first|refine hK _ ?_|refine hK _ _ rfl ?_);clear hK K)|(guard_hyp hK;first|(refine zY ?zz ?_;case zz=>first|exact rfl|exact gJ)|refine fresh_n ?_|refine freshO_n ?_|refine zW ?_|(refine zQ (t1) ?_)|(refine zQ (t2) ?_)|(refine zQ (s1) ?_)|(refine zQ (s2) ?_)|intro b0 hb)|((first|with_reducible refine zm ?_|guard_hyp hK);refine zY ?_ ?_;all_goals(intro hb;(try simp only [sn,sb] at hb);try exact ex0)))
   exact retb rfl rfl rfl
 ·intro R hR
  repeat'(first|(with_reducible first|(refine zz ?_;try intro K hK)|refine zI ?_|refine zt ?_|refine zf ?_)|((first|refine hK _ ?_|refine hK _ _ rfl ?_);clear hK K)|(guard_hyp hK;first|(refine zY ?zz ?_;case zz=>first|exact rfl|exact gJ)|refine fresh_n ?_|refine freshO_n ?_|refine zW ?_|intro b0 hb)|((first|with_reducible refine zm ?_|guard_hyp hK);refine zY ?_ ?_;all_goals(intro hb;(try simp only [sn,sb] at hb);try exact ex0)))
  have key:∀u:ByteArray,(u.extract (Int.toNat 0) (if 4000 < (u.size:Int) then(4000:Int) else(u.size:Int)).toNat).size≤90000:=fun u=>by
   rw [ByteArray.size_extract]
   split<;>omega
  exact hR _ (_,_) ⟨key s,key t⟩ ⟨rfl,⟨rfl,trivial,rfl,trivial,trivial⟩,trivial,trivial⟩
end Go.Ev
