/- Parts of the proof. Conditions: none. -/
import Derived.Test.YtjemihhhkhdbeaaFTpc

